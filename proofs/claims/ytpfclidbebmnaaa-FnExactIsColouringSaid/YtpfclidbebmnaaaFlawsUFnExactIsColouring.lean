/- The reading of laws_FnExactIsColouring, and its contract. No condition. -/
import Derived.Test.YtpfclidbebmnaaaTy
import Derived.Test.YtpfclidbebmnaaaS1Col
import Derived.Test.YtpfclidbebmnaaaFimplUIsColouring
import Derived.Test.YtpfclidbebmnaaaFlawsUtoColouring
import Derived.Test.YtpfclidbebmnaaaFspecUIsColouring
namespace Go.Proofs.Ytpfclidbebmnaaa
open Go Go.RowKit Eng Mem
set_option linter.unusedVariables false
set_option maxRecDepth 100000
def V_laws_FnExactIsColouring (aX0 : Value) (w : World) (K : Bool → World → Prop) : Prop :=
  (Pr Try.prog (Instr.box 47 aX0) w (.one .any) fun (aX1_2 : Value) w_1 => (QSub Try.prog (Instr.loadAt 47 aX1_2) w_1 .any fun (x5_3 : Value) => (Fc Try.prog 54 #[x5_3] w_1 (.one .any) fun (x6_5 : Value) w_4 => (Fc Try.prog 53 #[x6_5] w_4 (.one .bool) fun (x7_7 : Bool) w_6 => (QSub Try.prog (Instr.loadAt 47 aX1_2) w_6 .any fun (x8_8 : Value) => (Fc Try.prog 54 #[x8_8] w_6 (.one .any) fun (x9_10 : Value) w_9 => (Fc Try.prog 55 #[x9_10] w_9 (.one .bool) fun (x10_12 : Bool) w_11 => (QAll Try.prog (do eqGuard .neq 4 (.tmp 11) (.tmp 12) (.bool x10_12) (.bool x7_7); binOp .neq 4 (.bool x10_12) (.bool x7_7)) .bool fun (x13_13 : Bool) => ((x13_13 = true → K false w_11) ∧ (x13_13 = false → K true w_11))))))))))

theorem eq_laws_FnExactIsColouring (aX0 : Value) (w : World) (K : Bool → World → Prop) :
    W Try.prog ty (fun _ _ _ _ => False) (bodyOf Try.f13) (fnPost Try.prog Try.f13.results.toList (.one .bool) K) (frame0 [aX0] 14) w = V_laws_FnExactIsColouring aX0 w K := by
  kernel_rfl

theorem body_laws_FnExactIsColouring : Try.f13.body = some (bodyOf Try.f13) := by kernel_rfl
theorem name_laws_FnExactIsColouring : (Try.f13.name == "runtime.NumGoroutine") = false := by kernel_rfl

theorem walk_laws_FnExactIsColouring (aX0 : Value) {w : World} {K : Bool → World → Prop} (h : V_laws_FnExactIsColouring aX0 w K) : Fc Try.prog 13 #[aX0] w (.one .bool) K :=
  fn_ok follows (sound_none _) Try.func13 name_laws_FnExactIsColouring body_laws_FnExactIsColouring Try.ntmps13 [aX0] (Eq.mpr (eq_laws_FnExactIsColouring aX0 w K) h)

-- uses S1Col
theorem c_laws_FnExactIsColouring {c : Col} {w : World} {K : Bool → World → Prop} (h : c.Ok) (hK : ∀ w', Below w.heap.size w w' → K true w') :
    Fc Try.prog F_laws_FnExactIsColouring #[c.val] w (.one .bool) K := by
  refine walk_laws_FnExactIsColouring _ ?_
  refine box c.cells rfl fun b1 w1 n1 => ?_
  have r1 : ColAt w1 (ptr b1 0) c := row_all n1.at_
  refine ldA yCL h.cells_len r1 (c_laws_toColouring h fun w2 hb2 => c_spec_IsColouring h fun w3 hb3 => ?_)
  refine ldA yCL h.cells_len ((r1.keep hb2).keep hb3) (c_laws_toColouring h fun w4 hb4 => c_impl_IsColouring h fun w5 hb5 => ?_)
  refine neqB Try.underlyingTb ⟨fun hf => by simp at hf, fun _ => hK w5 ?_⟩
  have a2 := n1.below.trans (hb2.mono n1.below.size)
  have a3 := a2.trans (hb3.mono a2.size)
  have a4 := a3.trans (hb4.mono a3.size)
  exact a4.trans (hb5.mono a4.size)

end Go.Proofs.Ytpfclidbebmnaaa
