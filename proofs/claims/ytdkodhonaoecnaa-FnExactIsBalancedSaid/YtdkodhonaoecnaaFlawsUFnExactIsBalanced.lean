/- The reading of laws_FnExactIsBalanced, and its contract. No condition. -/
import Derived.Test.YtdkodhonaoecnaaTy
import Derived.Test.YtdkodhonaoecnaaS2Sl
import Derived.Test.YtdkodhonaoecnaaFimplUIsBalanced
import Derived.Test.YtdkodhonaoecnaaFlawsUtoColouring
import Derived.Test.YtdkodhonaoecnaaFspecUIsBalanced
namespace Go.Proofs.Ytdkodhonaoecnaa
open Go Go.RowKit Eng Mem
set_option linter.unusedVariables false
set_option maxRecDepth 100000
def V_laws_FnExactIsBalanced (aX0 : Value) (w : World) (K : Bool → World → Prop) : Prop :=
  (Pr Try.prog (Instr.box 35 aX0) w (.one .any) fun (aX1_2 : Value) w_1 => (QSub Try.prog (Instr.loadAt 35 aX1_2) w_1 .any fun (x8_3 : Value) => (Fc Try.prog 25 #[x8_3] w_1 (.one .any) fun (x9_5 : Value) w_4 => (Fc Try.prog 37 #[x9_5] w_4 (.two .bool (.int .i64)) fun (x10_7 : Bool × Int) w_6 => (QSub Try.prog (Instr.loadAt 35 aX1_2) w_6 .any fun (x14_8 : Value) => (Fc Try.prog 25 #[x14_8] w_6 (.one .any) fun (x15_10 : Value) w_9 => (Fc Try.prog 38 #[x15_10] w_9 (.two .bool (.int .i64)) fun (x16_12 : Bool × Int) w_11 => (QAll Try.prog (do eqGuard .neq 4 (.tmp 19) (.tmp 20) (.bool x16_12.1) (.bool x10_7.1); binOp .neq 4 (.bool x16_12.1) (.bool x10_7.1)) .bool fun (x21_13 : Bool) => ((x21_13 = true → K false w_11) ∧ (x21_13 = false → (((x16_12.2 != x10_7.2) = true → K false w_11) ∧ ((x16_12.2 != x10_7.2) = false → K true w_11))))))))))))

theorem eq_laws_FnExactIsBalanced (aX0 : Value) (w : World) (K : Bool → World → Prop) :
    W Try.prog ty (fun _ _ _ _ => False) (bodyOf Try.f11) (fnPost Try.prog Try.f11.results.toList (.one .bool) K) (frame0 [aX0] 27) w = V_laws_FnExactIsBalanced aX0 w K := by
  kernel_rfl

theorem body_laws_FnExactIsBalanced : Try.f11.body = some (bodyOf Try.f11) := by kernel_rfl
theorem name_laws_FnExactIsBalanced : (Try.f11.name == "runtime.NumGoroutine") = false := by kernel_rfl

theorem walk_laws_FnExactIsBalanced (aX0 : Value) {w : World} {K : Bool → World → Prop} (h : V_laws_FnExactIsBalanced aX0 w K) : Fc Try.prog 11 #[aX0] w (.one .bool) K :=
  fn_ok follows (sound_none _) Try.func11 name_laws_FnExactIsBalanced body_laws_FnExactIsBalanced Try.ntmps11 [aX0] (Eq.mpr (eq_laws_FnExactIsBalanced aX0 w K) h)

-- uses S2Sl
theorem c_laws_FnExactIsBalanced {c0 : Col} {w : World} {K : Bool → World → Prop} (h0 : c0.Ok) (hK : ∀ w', Below w.heap.size w w' → K true w') :
    Fc Try.prog F_laws_FnExactIsBalanced #[c0.val] w (.one .bool) K := by
  refine walk_laws_FnExactIsBalanced _ ?_
  have B := Below.refl w.heap.size w
  refine colL_box fun b4 w1 b4_l b4_h q2 f3 => ?_
  replace B := B.trans (q2.mono B.size)
  have q2_s := q2.size
  refine colL_all h0 f3 ?_
  refine c_laws_toColouring h0 fun w5 q6 => ?_
  replace f3 := f3.keep q6
  replace B := B.trans (q6.mono B.size)
  have q6_s := q6.size
  refine c_spec_IsBalanced h0 fun w8 q9 => ?_
  replace f3 := f3.keep q9
  replace B := B.trans (q9.mono B.size)
  have q9_s := q9.size
  refine colL_all h0 f3 ?_
  refine c_laws_toColouring h0 fun w11 q12 => ?_
  replace f3 := f3.keep q12
  replace B := B.trans (q12.mono B.size)
  have q12_s := q12.size
  refine c_impl_IsBalanced h0 fun w14 q15 => ?_
  replace f3 := f3.keep q15
  replace B := B.trans (q15.mono B.size)
  have q15_s := q15.size
  refine neqB Try.underlyingTb ?_
  refine ⟨fun e17 => absurd e17 (by simp), fun _ => ?_⟩
  refine ⟨fun e18 => absurd rfl (ne_t e18), fun _ => ?_⟩
  exact hK _ B

end Go.Proofs.Ytdkodhonaoecnaa
