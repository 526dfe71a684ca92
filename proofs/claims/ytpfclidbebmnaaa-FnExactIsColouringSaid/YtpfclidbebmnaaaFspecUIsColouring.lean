/- The reading of spec_IsColouring, and its contract. No condition. -/
import Derived.Test.YtpfclidbebmnaaaTy
import Derived.Test.YtpfclidbebmnaaaS1Col
import Derived.Test.YtpfclidbebmnaaaFspecUl01Is
namespace Go.Proofs.Ytpfclidbebmnaaa
open Go Go.RowKit Eng Mem
set_option linter.unusedVariables false
set_option maxRecDepth 100000
def V_spec_IsColouring (x0 : Value) (w : World) (K : Bool → World → Prop) : Prop :=
  (Pr Try.prog (Instr.box 49 x0) w (.one .any) fun (x1_2 : Value) w_1 => (QSub Try.prog (Instr.loadAt 49 x1_2) w_1 .any fun (x3_3 : Value) => (Fc Try.prog 88 #[x3_3] w_1 (.one .bool) fun (x4_5 : Bool) w_4 => K x4_5 w_4)))

theorem eq_spec_IsColouring (x0 : Value) (w : World) (K : Bool → World → Prop) :
    W Try.prog ty (fun _ _ _ _ => False) (bodyOf Try.f53) (fnPost Try.prog Try.f53.results.toList (.one .bool) K) (frame0 [x0] 5) w = V_spec_IsColouring x0 w K := by
  kernel_rfl

theorem body_spec_IsColouring : Try.f53.body = some (bodyOf Try.f53) := by kernel_rfl
theorem name_spec_IsColouring : (Try.f53.name == "runtime.NumGoroutine") = false := by kernel_rfl

theorem walk_spec_IsColouring (x0 : Value) {w : World} {K : Bool → World → Prop} (h : V_spec_IsColouring x0 w K) : Fc Try.prog 53 #[x0] w (.one .bool) K :=
  fn_ok follows (sound_none _) Try.func53 name_spec_IsColouring body_spec_IsColouring Try.ntmps53 [x0] (Eq.mpr (eq_spec_IsColouring x0 w K) h)

-- uses S1Col
theorem c_spec_IsColouring {c : Col} {w : World} {K : Bool → World → Prop} (h : c.Ok) (hK : ∀ w', Below w.heap.size w w' → K (decide c.Is) w') :
    Fc Try.prog F_spec_IsColouring #[c.val] w (.one .bool) K := by
  refine walk_spec_IsColouring c.val ?_
  refine col_box fun b w1 hn hx => ?_
  refine col_all h hx (c_spec_l01Is h fun w' hb => ?_)
  exact hK w' (hn.below.trans (hb.mono hn.below.size))

end Go.Proofs.Ytpfclidbebmnaaa
