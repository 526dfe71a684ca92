/- The reading of impl_Colouring_code, and its contract. No condition. -/
import Derived.Test.YtkadckhealbdaaaTy
import Derived.Test.YtkadckhealbdaaaS1Col
import Derived.Test.YtkadckhealbdaaaFimplUColouringUisColouring
namespace Go.Proofs.Ytkadckhealbdaaa
open Go Go.RowKit Eng Mem
set_option linter.unusedVariables false
set_option maxRecDepth 100000
def V_impl_Colouring_code (x0 : Value) (right1 : Value) (w : World) (K : Int → World → Prop) : Prop :=
  (Fc Try.prog 67 #[x0] w (.one .bool) fun (x7_2 : Bool) w_1 => (((!x7_2) = true → K (1 : Int) w_1) ∧ ((!x7_2) = false → (callV Try.prog right1 #[] w_1 (.one .bool) fun (x11_4 : Bool) w_3 => (((!x11_4) = true → K (2 : Int) w_3) ∧ ((!x11_4) = false → K (0 : Int) w_3))))))

theorem eq_impl_Colouring_code (x0 : Value) (right1 : Value) (w : World) (K : Int → World → Prop) :
    W Try.prog ty (fun _ _ _ _ => False) (bodyOf Try.f46) (fnPost Try.prog Try.f46.results.toList (.one (.int .i64)) K) (frame0 [x0, right1] 13) w = V_impl_Colouring_code x0 right1 w K := by
  kernel_rfl

theorem body_impl_Colouring_code : Try.f46.body = some (bodyOf Try.f46) := by kernel_rfl
theorem name_impl_Colouring_code : (Try.f46.name == "runtime.NumGoroutine") = false := by kernel_rfl

theorem walk_impl_Colouring_code (x0 : Value) (right1 : Value) {w : World} {K : Int → World → Prop} (h : V_impl_Colouring_code x0 right1 w K) : Fc Try.prog 46 #[x0, right1] w (.one (.int .i64)) K :=
  fn_ok follows (sound_none _) Try.func46 name_impl_Colouring_code body_impl_Colouring_code Try.ntmps46 [x0, right1] (Eq.mpr (eq_impl_Colouring_code x0 right1 w K) h)

-- uses S1Col
theorem c_impl_Colouring_code {p right : Value} {c : Col} (r : Bool) {w : World} {K : Int → World → Prop} (hc : c.Ok) (hx : ColAt w p c)
    (hr : c.Is → ∀ (w' : World) (K' : Bool → World → Prop), Below w.heap.size w w' → (∀ w'', Below w'.heap.size w' w'' → K' r w'') → callV Try.prog right #[] w' (.one .bool) K')
    (hK : ∀ w', Below w.heap.size w w' → K (if c.Is then (if r then 0 else 2) else 1) w') : Fc Try.prog F_impl_Colouring_code #[p, right] w (.one (.int .i64)) K := by
  refine walk_impl_Colouring_code _ _ (c_impl_Colouring_isColouring hc hx fun w1 hb1 => ?_)
  refine ⟨fun h => ?_, fun h => hr (notd_f h) w1 _ hb1 fun w2 hb2 => ?_⟩
  · have := hK w1 hb1
    rwa [if_neg (notd_t h)] at this
  · have := hK w2 (hb1.trans (hb2.mono hb1.size))
    rw [if_pos (notd_f h)] at this
    refine ⟨fun hr => ?_, fun hr => ?_⟩
    · rw [not_t hr] at this; exact this
    · rw [not_f hr] at this; exact this

end Go.Proofs.Ytkadckhealbdaaa
