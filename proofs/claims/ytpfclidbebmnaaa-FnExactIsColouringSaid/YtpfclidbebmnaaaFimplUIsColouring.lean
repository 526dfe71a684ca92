/- The reading of impl_IsColouring, and its contract. No condition. -/
import Derived.Test.YtpfclidbebmnaaaTy
import Derived.Test.YtpfclidbebmnaaaS1Col
import Derived.Test.YtpfclidbebmnaaaFimplUColouringUisColouring
namespace Go.Proofs.Ytpfclidbebmnaaa
open Go Go.RowKit Eng Mem
set_option linter.unusedVariables false
set_option maxRecDepth 100000
def V_impl_IsColouring (x0 : Value) (w : World) (K : Bool → World → Prop) : Prop :=
  (Pr Try.prog (Instr.box 49 x0) w (.one .any) fun (x1_2 : Value) w_1 => (Fc Try.prog 90 #[x1_2] w_1 (.one .bool) fun (x3_4 : Bool) w_3 => K x3_4 w_3))

theorem eq_impl_IsColouring (x0 : Value) (w : World) (K : Bool → World → Prop) :
    W Try.prog ty (fun _ _ _ _ => False) (bodyOf Try.f55) (fnPost Try.prog Try.f55.results.toList (.one .bool) K) (frame0 [x0] 4) w = V_impl_IsColouring x0 w K := by
  kernel_rfl

theorem body_impl_IsColouring : Try.f55.body = some (bodyOf Try.f55) := by kernel_rfl
theorem name_impl_IsColouring : (Try.f55.name == "runtime.NumGoroutine") = false := by kernel_rfl

theorem walk_impl_IsColouring (x0 : Value) {w : World} {K : Bool → World → Prop} (h : V_impl_IsColouring x0 w K) : Fc Try.prog 55 #[x0] w (.one .bool) K :=
  fn_ok follows (sound_none _) Try.func55 name_impl_IsColouring body_impl_IsColouring Try.ntmps55 [x0] (Eq.mpr (eq_impl_IsColouring x0 w K) h)

-- uses S1Col
theorem c_impl_IsColouring {c : Col} {w : World} {K : Bool → World → Prop} (h : c.Ok) (hK : ∀ w', Below w.heap.size w w' → K (decide c.Is) w') :
    Fc Try.prog F_impl_IsColouring #[c.val] w (.one .bool) K := by
  refine walk_impl_IsColouring c.val ?_
  refine col_box fun b w1 hn hx => ?_
  refine c_impl_Colouring_isColouring h hx fun w' hb => ?_
  exact hK w' (hn.below.trans (hb.mono hn.below.size))

end Go.Proofs.Ytpfclidbebmnaaa
