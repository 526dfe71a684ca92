/- The reading of impl_ColouringOf, and its contract. No condition. -/
import Derived.Test.YtdnofmicjgppnaaTy
import Derived.Test.YtdnofmicjgppnaaS6Of
import Derived.Test.YtdnofmicjgppnaaFimplUColouringOfU1
import Derived.Test.YtdnofmicjgppnaaFimplUareIn
import Derived.Test.YtdnofmicjgppnaaFimplUareSizes
import Derived.Test.YtdnofmicjgppnaaFimplUmade
namespace Go.Proofs.Ytdnofmicjgppnaa
open Go Go.RowKit Eng Mem
set_option linter.unusedVariables false
set_option maxRecDepth 100000
def V_impl_ColouringOf (n0 : Int) (k1 : Int) (colours2 : Value) (w : World) (K : (Value × Int) → World → Prop) : Prop :=
  (Pr Try.prog (Instr.box 22 colours2) w (.one .any) fun (colours5_2 : Value) w_1 => (Pr Try.prog (Instr.alloc 31 true (.tuple #[])) w_1 (.one .any) fun (x6_4 : Value) w_3 => (Fc Try.prog 47 #[(.int .i64 n0), (.int .i64 k1)] w_3 (.one .bool) fun (x10_6 : Bool) w_5 => (((!x10_6) = true → (Pr Try.prog (Instr.build 31 #[]) w_5 (.one .any) fun (x24_8 : Value) w_7 => (PrU Try.prog (Instr.storeAt 31 x6_4 x24_8) w_7 fun w_9 => (QSub Try.prog (Instr.loadAt 31 x6_4) w_9 .any fun (r_11 : Value) => K ((r_11 : Value), (2 : Int)) w_9)))) ∧ ((!x10_6) = false → (QSub Try.prog (Instr.loadAt 22 colours5_2) w_5 .any fun (x13_12 : Value) => ((2 : Int) ≠ 0 ∧ (Fc Try.prog 48 #[x13_12, (.int .i64 (IntKind.i64.wrap (Int.tdiv (IntKind.i64.wrap (n0 * (IntKind.i64.wrap (n0 - (1 : Int))))) (2 : Int)))), (.int .i64 (0 : Int)), (.int .i64 (IntKind.i64.wrap (k1 - (1 : Int))))] w_5 (.one .bool) fun (x21_14 : Bool) w_13 => (((!x21_14) = true → (Pr Try.prog (Instr.build 31 #[]) w_13 (.one .any) fun (x24_16 : Value) w_15 => (PrU Try.prog (Instr.storeAt 31 x6_4 x24_16) w_15 fun w_17 => (QSub Try.prog (Instr.loadAt 31 x6_4) w_17 .any fun (r_19 : Value) => K ((r_19 : Value), (2 : Int)) w_17)))) ∧ ((!x21_14) = false → (Fc Try.prog 49 #[(.int .i64 n0), (.int .i64 k1), (.func (.func 50) #[] #[colours5_2])] w_13 (.one .any) fun (x28_21 : Value) w_20 => (PrU Try.prog (Instr.storeAt 31 x6_4 x28_21) w_20 fun w_22 => (QSub Try.prog (Instr.loadAt 31 x6_4) w_22 .any fun (r_24 : Value) => K ((r_24 : Value), (0 : Int)) w_22)))))))))))))

theorem eq_impl_ColouringOf (n0 : Int) (k1 : Int) (colours2 : Value) (w : World) (K : (Value × Int) → World → Prop) :
    W Try.prog ty (fun _ _ _ _ => False) (bodyOf Try.f21) (fnPost Try.prog Try.f21.results.toList (.two .any (.int .i64)) K) (frame0 [(.int .i64 n0), (.int .i64 k1), colours2] 29) w = V_impl_ColouringOf n0 k1 colours2 w K := by
  kernel_rfl

theorem body_impl_ColouringOf : Try.f21.body = some (bodyOf Try.f21) := by kernel_rfl
theorem name_impl_ColouringOf : (Try.f21.name == "runtime.NumGoroutine") = false := by kernel_rfl

theorem walk_impl_ColouringOf (n0 : Int) (k1 : Int) (colours2 : Value) {w : World} {K : (Value × Int) → World → Prop} (h : V_impl_ColouringOf n0 k1 colours2 w K) : Fc Try.prog 21 #[(.int .i64 n0), (.int .i64 k1), colours2] w (.two .any (.int .i64)) K :=
  fn_ok follows (sound_none _) Try.func21 name_impl_ColouringOf body_impl_ColouringOf Try.ntmps21 [(.int .i64 n0), (.int .i64 k1), colours2] (Eq.mpr (eq_impl_ColouringOf n0 k1 colours2 w K) h)

-- uses S6Of
theorem c_impl_ColouringOf {n k : Int} {a : Value} {l : List Int} {w : World} {K : Value × Int → World → Prop} (_ : I64 n) (_ : I64 k) (ha : ArgI w a l)
    (hK : ∀ w', Below w.heap.size w w' → (colOf n k l).1.Ok → K ((colOf n k l).1.val, (colOf n k l).2) w') : Fc Try.prog F_impl_ColouringOf #[.int .i64 n, .int .i64 k, a] w (.two .any (.int .i64)) K := by
  have no : ¬ (Sizes n k ∧ (l.length : Int) = edgesOf n ∧ AllIn l 0 (k - 1)) → ∀ w', Below w.heap.size w w' → K (col0.val, 2) w' := fun hn w' hb => by
    have := hK w' hb (colOf_ok _ _ _); unfold colOf at this; rwa [if_neg hn] at this
  refine walk_impl_ColouringOf _ _ _ (box [a] (by rw [ha.sl.cells]) fun b w1 n1 => c_alloc fun p w2 hb2 hv => c_impl_areSizes _ _ ?_)
  have hb := n1.below.trans (hb2.mono n1.below.size)
  have hs2 := hb2.size; have hs := hb.size; have hs1 := n1.below.size
  have c2 : Cell w2 (ptr b 0) a := (row_all (cs := [a]) n1.at_).keep hb2
  refine ⟨fun h => c_none hv hs2 fun w' hb' => no (fun hh => notd_t h hh.1) _ (hb.trans (hb'.mono hs1)), fun h => ?_⟩
  have h := notd_f h
  refine ld (k := .any) y1SI c2 ⟨by decide, ?_⟩
  rw [wedges (by have := h.1; omega) h.2.1, wrap_small (by have := h.2.2.1; omega) (by have := h.2.2.2; omega)]
  refine c_impl_areIn (ha.sl.keep hb) fun w3 hb3 => ?_
  have hbb := hb.trans (hb3.mono hs)
  have hs3 := hb3.size
  refine ⟨fun h3 => c_none (hv.keep hb3) (by omega) fun w' hb' => no (fun hh => notd_t h3 hh.2) _ (hbb.trans (hb'.mono hs1)), fun h3 => ?_⟩
  have h3 := notd_f h3
  have c3 := c2.keep hb3
  have ar := h3.2
  have hn17 := h.2.1
  refine c_impl_made (fun e => l.getD e 0) (by have := h.1; omega) h.2.1 ⟨by have := h.2.2.1; omega, by have := h.2.2.2; omega⟩ (fun e he => ?_) (fun i j i0 i1 i2 w' K' hb' hk => cv rfl ?_) fun w4 hb4 => ?_
  · have := ar.get (i := e) (by omega)
    have := h.2.2.2
    omega
  · have hen := enum_lt i0 i1 i2 hn17
    exact c_impl_ColouringOf_1 (c3.keep hb') ((ha.sl.keep hbb).keep hb') i0 i1 (by omega) (by omega) hk
  · have hs4 := hb4.size
    have hK' := fun w' hb => hK w' hb (colOf_ok _ _ _)
    have hok := colOf_ok n k l
    unfold colOf at hK' hok
    rw [if_pos ⟨h, h3⟩] at hK' hok
    exact c_ret hok ((hv.keep hb3).keep hb4) (by omega) fun w5 hb5 => hK' w5 ((hbb.trans (hb4.mono hbb.size)).trans (hb5.mono hs1))

end Go.Proofs.Ytdnofmicjgppnaa
