/- The reading of impl_Colouring_recoloured, and its contract. No condition. -/
import Derived.Test.YtkadckhealbdaaaTy
import Derived.Test.YtkadckhealbdaaaS8Rec
import Derived.Test.YtkadckhealbdaaaFimplUColouringUrecolouredU1
import Derived.Test.YtkadckhealbdaaaFimplUmade
namespace Go.Proofs.Ytkadckhealbdaaa
open Go Go.RowKit Eng Mem
set_option linter.unusedVariables false
set_option maxRecDepth 100000
def V_impl_Colouring_recoloured (x0 : Value) (k1 : Int) (of2 : Value) (w : World) (K : Value → World → Prop) : Prop :=
  (Pr Try.prog (Instr.box 77 x0) w (.one .any) fun (x3_2 : Value) w_1 => (Pr Try.prog (Instr.box 59 of2) w_1 (.one .any) fun (of5_4 : Value) w_3 => (Pr Try.prog (Instr.alloc 25 true (.tuple #[])) w_3 (.one .any) fun (x6_6 : Value) w_5 => (QSub Try.prog (Instr.loadAt 77 x3_2) w_5 .any fun (x7_7 : Value) => (NilOk x7_7 ∧ (QAll Try.prog (Instr.fieldAt 25 x7_7 0) .any fun (x9_8 : Value) => (QSub Try.prog (Instr.loadAt 2 x9_8) w_5 (.int .i64) fun (x10_9 : Int) => (Fc Try.prog 87 #[(.int .i64 x10_9), (.int .i64 k1), (.func (.func 88) #[] #[of5_4, x3_2])] w_5 (.one .any) fun (x13_11 : Value) w_10 => (PrU Try.prog (Instr.storeAt 25 x6_6 x13_11) w_10 fun w_12 => (QSub Try.prog (Instr.loadAt 25 x6_6) w_12 .any fun (r_14 : Value) => K (r_14 : Value) w_12))))))))))

theorem eq_impl_Colouring_recoloured (x0 : Value) (k1 : Int) (of2 : Value) (w : World) (K : Value → World → Prop) :
    W Try.prog ty (fun _ _ _ _ => False) (bodyOf Try.f49) (fnPost Try.prog Try.f49.results.toList (.one .any) K) (frame0 [x0, (.int .i64 k1), of2] 14) w = V_impl_Colouring_recoloured x0 k1 of2 w K := by
  kernel_rfl

theorem body_impl_Colouring_recoloured : Try.f49.body = some (bodyOf Try.f49) := by kernel_rfl
theorem name_impl_Colouring_recoloured : (Try.f49.name == "runtime.NumGoroutine") = false := by kernel_rfl

theorem walk_impl_Colouring_recoloured (x0 : Value) (k1 : Int) (of2 : Value) {w : World} {K : Value → World → Prop} (h : V_impl_Colouring_recoloured x0 k1 of2 w K) : Fc Try.prog 49 #[x0, (.int .i64 k1), of2] w (.one .any) K :=
  fn_ok follows (sound_none _) Try.func49 name_impl_Colouring_recoloured body_impl_Colouring_recoloured Try.ntmps49 [x0, (.int .i64 k1), of2] (Eq.mpr (eq_impl_Colouring_recoloured x0 k1 of2 w K) h)

-- uses S8Rec
theorem c_impl_Colouring_recoloured {x of : Value} {c : Col} {k : Int} {w : World} {K : Value → World → Prop} (f : Int → Int) (hc : c.Ok) (hI : c.Is) (hx : ColAt w x c) (hk : I64 k) (hf : ∀ e, 0 ≤ e → e < c.k → 0 ≤ f e ∧ f e < 256) (ho : of.cells = #[of])
    (hof : ∀ e, 0 ≤ e → e < c.k → ∀ (w' : World) (K' : Int → World → Prop), Below w.heap.size w w' → (∀ w'', Below w'.heap.size w' w'' → K' (f e) w'') → callV Try.prog of #[.int .i64 e] w' (.one (.int .i64)) K')
    (hK : ∀ w', Below w.heap.size w w' → K (recF c k f).val w') : Fc Try.prog F_impl_Colouring_recoloured #[x, .int .i64 k, of] w (.one .any) K := by
  have hxc : x.cells = #[x] := by obtain ⟨a, rfl⟩ := hx.isPtr; rfl
  have n0 := hI.1; have n1 := hI.2.1
  refine walk_impl_Colouring_recoloured _ _ _ (box [x] (by rw [hxc]) fun b1 w1 m1 => box [of] (by rw [ho]) fun b2 w2 m2 => c_alloc fun p w3 q3 hv => ?_)
  have q1 := m1.below
  have q2 := q1.trans (m2.below.mono q1.size)
  have q13 := q2.trans (q3.mono q2.size)
  have cx : Cell w3 (ptr b1 0) x := ((row_all (cs := [_]) m1.at_).keep m2.below).keep q3
  have co : Cell w3 (ptr b2 0) of := (row_all (cs := [_]) m2.at_).keep q3
  have hs2 := q2.size; have hs3 := q3.size; have hs := q13.size
  have hx3 := hx.keep q13
  have hb : ∀ e, e < (edgesOf c.n).toNat → 0 ≤ f (c.e e) ∧ f (c.e e) < 256 := fun e he => by
    have := is_e hI hc he
    exact hf _ this.1 this.2
  refine ld (k := .any) y1PC cx ⟨hx.nonnil, col_n hx3 (c_impl_made (fun e => f (c.e e)) (by omega) n1 hk hb (fun i j i0 i1 i2 w' K' hb' hk' => cv rfl ?_) fun w4 q4 => ?_)⟩
  · rw [← num_of i1] at hk'
    have hnum := num_lt i0 (by omega) (by omega) i2 n1 (show i ≠ j by omega)
    have he := is_e hI hc (e := (num i j).toNat) (by omega)
    exact c_impl_Colouring_recoloured_1 f (co.keep hb') (cx.keep hb') hc (hx3.keep hb') i0 i1 (by omega) (fun w'' K'' q'' hk'' => hof _ he.1 he.2 w'' K'' ((q13.trans (hb'.mono hs)).trans (q''.mono (by have := hb'.size; omega))) hk'') hk'
  · have hs4 := q4.size
    exact c_ret (recF_ok hc hk hb) (hv.keep q4) (by omega) fun w5 q5 => hK w5 ((q13.trans (q4.mono hs)).trans (q5.mono hs2))

end Go.Proofs.Ytkadckhealbdaaa
