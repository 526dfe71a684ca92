/- The reading of impl_Colouring_recoloured_1, and its contract. No condition. -/
import Derived.Test.YtkadckhealbdaaaTy
import Derived.Test.YtkadckhealbdaaaS8Rec
import Derived.Test.YtkadckhealbdaaaFimplUColouringUat
namespace Go.Proofs.Ytkadckhealbdaaa
open Go Go.RowKit Eng Mem
set_option linter.unusedVariables false
set_option maxRecDepth 100000
def V_impl_Colouring_recoloured_1 (i0 : Int) (j1 : Int) (x2 : Value) (x3 : Value) (w : World) (K : Int → World → Prop) : Prop :=
  (∀ w_1, Drew w w_1 → (QSub Try.prog (Instr.loadAt 59 x2) w_1 .any fun (x7_2 : Value) => (QSub Try.prog (Instr.loadAt 77 x3) w_1 .any fun (x8_3 : Value) => (Fc Try.prog 89 #[x8_3, (.int .i64 i0), (.int .i64 j1)] w_1 (.one (.int .i64)) fun (x11_5 : Int) w_4 => (Keeps w_1 w_4 ((callV Try.prog x7_2 #[(.int .i64 x11_5)] w_4 (.one (.int .i64)) fun (x12_7 : Int) w_6 => (Keeps w_1 w_6 (K x12_7 w_6)))))))))

theorem eq_impl_Colouring_recoloured_1 (i0 : Int) (j1 : Int) (x2 : Value) (x3 : Value) (w : World) (K : Int → World → Prop) :
    W Try.prog ty (fun _ _ _ _ => False) (bodyOf Try.f88) (fnPost Try.prog Try.f88.results.toList (.one (.int .i64)) K) (frame0 [(.int .i64 i0), (.int .i64 j1), x2, x3] 13) w = V_impl_Colouring_recoloured_1 i0 j1 x2 x3 w K := by
  kernel_rfl

theorem body_impl_Colouring_recoloured_1 : Try.f88.body = some (bodyOf Try.f88) := by kernel_rfl
theorem name_impl_Colouring_recoloured_1 : (Try.f88.name == "runtime.NumGoroutine") = false := by kernel_rfl

theorem walk_impl_Colouring_recoloured_1 (i0 : Int) (j1 : Int) (x2 : Value) (x3 : Value) {w : World} {K : Int → World → Prop} (h : V_impl_Colouring_recoloured_1 i0 j1 x2 x3 w K) : Fc Try.prog 88 #[(.int .i64 i0), (.int .i64 j1), x2, x3] w (.one (.int .i64)) K :=
  fn_ok follows (sound_none _) Try.func88 name_impl_Colouring_recoloured_1 body_impl_Colouring_recoloured_1 Try.ntmps88 [(.int .i64 i0), (.int .i64 j1), x2, x3] (Eq.mpr (eq_impl_Colouring_recoloured_1 i0 j1 x2 x3 w K) h)

-- uses S8Rec
theorem c_impl_Colouring_recoloured_1 {p q x of : Value} {c : Col} {i j : Int} {w : World} {K : Int → World → Prop} (f : Int → Int) (hp : Cell w p of) (hq : Cell w q x) (hc : c.Ok) (hx : ColAt w x c) (i0 : 0 ≤ i) (i1 : i < j) (i2 : j < 17)
    (hof : ∀ (w' : World) (K' : Int → World → Prop), Below w.heap.size w w' → (∀ w'', Below w'.heap.size w' w'' → K' (f (c.e (num i j).toNat)) w'') → callV Try.prog of #[.int .i64 (c.e (num i j).toNat)] w' (.one (.int .i64)) K')
    (hK : ∀ w', Below w.heap.size w w' → K (f (c.e (num i j).toNat)) w') : Fc Try.prog F_impl_Colouring_recoloured_1 #[.int .i64 i, .int .i64 j, p, q] w (.one (.int .i64)) K := by
  refine walk_impl_Colouring_recoloured_1 _ _ _ _ ?_
  intro w1 hd
  have q1 := hd.below w.heap.size
  refine ld (k := .any) y1F (hp.keep q1) (ld (k := .any) y1PC (hq.keep q1) (c_impl_Colouring_at hc (hx.keep q1) i0 (by omega) (by omega) i2 (by omega) fun w2 q2 => ⟨q2, hof w2 _ (q1.trans (q2.mono q1.size)) fun w3 q3 => ?_⟩))
  exact ⟨q2.trans (q3.mono q2.size), hK w3 ((q1.trans (q2.mono q1.size)).trans (q3.mono (by have := q1.size; have := q2.size; omega)))⟩

end Go.Proofs.Ytkadckhealbdaaa
