/- The reading of laws_FnExactAreIsomorphic, and its contract. No condition. -/
import Derived.Test.YtkadckhealbdaaaTy
import Derived.Test.YtkadckhealbdaaaS2Sl
import Derived.Test.YtkadckhealbdaaaS9Law
import Derived.Test.YtkadckhealbdaaaFimplUAreIsomorphic
import Derived.Test.YtkadckhealbdaaaFlawsUtoColouring
import Derived.Test.YtkadckhealbdaaaFspecUAreIsomorphic
namespace Go.Proofs.Ytkadckhealbdaaa
open Go Go.RowKit Eng Mem
set_option linter.unusedVariables false
set_option maxRecDepth 100000
def V_laws_FnExactAreIsomorphic (aX0 : Value) (aY1 : Value) (w : World) (K : Bool → World → Prop) : Prop :=
  (Pr Try.prog (Instr.box 24 aX0) w (.one .any) fun (aX2_2 : Value) w_1 => (Pr Try.prog (Instr.box 24 aY1) w_1 (.one .any) fun (aY3_4 : Value) w_3 => (∀ w_5, Drew w_3 w_5 → (QSub Try.prog (Instr.loadAt 24 aX2_2) w_5 .any fun (x10_6 : Value) => (QSub Try.prog (Instr.loadAt 24 aY3_4) w_5 .any fun (x12_7 : Value) => (Fc Try.prog 15 #[x10_6] w_5 (.one .any) fun (x11_9 : Value) w_8 => (Keeps w_5 w_8 ((Fc Try.prog 15 #[x12_7] w_8 (.one .any) fun (x13_11 : Value) w_10 => (Keeps w_5 w_10 ((Fc Try.prog 26 #[x11_9, x13_11] w_10 (.two .bool (.int .i64)) fun (x14_13 : Bool × Int) w_12 => (Keeps w_5 w_12 ((∀ w_14, Drew w_12 w_14 → (QSub Try.prog (Instr.loadAt 24 aX2_2) w_14 .any fun (x18_15 : Value) => (QSub Try.prog (Instr.loadAt 24 aY3_4) w_14 .any fun (x20_16 : Value) => (Fc Try.prog 15 #[x18_15] w_14 (.one .any) fun (x19_18 : Value) w_17 => (Keeps w_14 w_17 ((Fc Try.prog 15 #[x20_16] w_17 (.one .any) fun (x21_20 : Value) w_19 => (Keeps w_14 w_19 ((Fc Try.prog 27 #[x19_18, x21_20] w_19 (.two .bool (.int .i64)) fun (x22_22 : Bool × Int) w_21 => (Keeps w_14 w_21 ((QAll Try.prog (do eqGuard .neq 4 (.tmp 25) (.tmp 26) (.bool x22_22.1) (.bool x14_13.1); binOp .neq 4 (.bool x22_22.1) (.bool x14_13.1)) .bool fun (x27_23 : Bool) => ((x27_23 = true → K false w_21) ∧ (x27_23 = false → (((x22_22.2 != x14_13.2) = true → K false w_21) ∧ ((x22_22.2 != x14_13.2) = false → K true w_21)))))))))))))))))))))))))))))))

theorem eq_laws_FnExactAreIsomorphic (aX0 : Value) (aY1 : Value) (w : World) (K : Bool → World → Prop) :
    W Try.prog ty (fun _ _ _ _ => False) (bodyOf Try.f6) (fnPost Try.prog Try.f6.results.toList (.one .bool) K) (frame0 [aX0, aY1] 33) w = V_laws_FnExactAreIsomorphic aX0 aY1 w K := by
  kernel_rfl

theorem body_laws_FnExactAreIsomorphic : Try.f6.body = some (bodyOf Try.f6) := by kernel_rfl
theorem name_laws_FnExactAreIsomorphic : (Try.f6.name == "runtime.NumGoroutine") = false := by kernel_rfl

theorem walk_laws_FnExactAreIsomorphic (aX0 : Value) (aY1 : Value) {w : World} {K : Bool → World → Prop} (h : V_laws_FnExactAreIsomorphic aX0 aY1 w K) : Fc Try.prog 6 #[aX0, aY1] w (.one .bool) K :=
  fn_ok follows (sound_none _) Try.func6 name_laws_FnExactAreIsomorphic body_laws_FnExactAreIsomorphic Try.ntmps6 [aX0, aY1] (Eq.mpr (eq_laws_FnExactAreIsomorphic aX0 aY1 w K) h)

-- uses S2Sl
-- uses S9Law
theorem c_laws_FnExactAreIsomorphic {c0 : Col} {c1 : Col} {w : World} {K : Bool → World → Prop} (h0 : c0.Ok) (h1 : c1.Ok) (hK : ∀ w', Below w.heap.size w w' → K true w') :
    Fc Try.prog F_laws_FnExactAreIsomorphic #[c0.val, c1.val] w (.one .bool) K := by
  refine walk_laws_FnExactAreIsomorphic _ _ ?_
  have B := Below.refl w.heap.size w
  refine colL_box fun b4 w1 b4_l b4_h q2 f3 => ?_
  replace B := B.trans (q2.mono B.size)
  have q2_s := q2.size
  refine colL_box fun b8 w5 b8_l b8_h q6 f7 => ?_
  replace f3 := f3.keep q6
  replace B := B.trans (q6.mono B.size)
  have q6_s := q6.size
  intro w9 d10
  have q11 := d10.below w5.heap.size
  replace f3 := f3.keep q11
  replace f7 := f7.keep q11
  replace B := B.trans (q11.mono B.size)
  have q11_s := q11.size
  have c12 := Below.refl w9.heap.size w9
  refine colL_all h0 f3 ?_
  refine colL_all h1 f7 ?_
  refine c_laws_toColouring h0 fun w13 q14 => ?_
  replace f3 := f3.keep q14
  replace f7 := f7.keep q14
  replace B := B.trans (q14.mono B.size)
  replace c12 := c12.trans (q14.mono c12.size)
  have q14_s := q14.size
  refine ⟨c12, ?_⟩
  refine c_laws_toColouring h1 fun w16 q17 => ?_
  replace f3 := f3.keep q17
  replace f7 := f7.keep q17
  replace B := B.trans (q17.mono B.size)
  replace c12 := c12.trans (q17.mono c12.size)
  have q17_s := q17.size
  refine ⟨c12, ?_⟩
  refine c_spec_AreIsomorphic h0 h1 fun w19 q20 => ?_
  replace f3 := f3.keep q20
  replace f7 := f7.keep q20
  replace B := B.trans (q20.mono B.size)
  replace c12 := c12.trans (q20.mono c12.size)
  have q20_s := q20.size
  refine ⟨c12, ?_⟩
  intro w22 d23
  have q24 := d23.below w19.heap.size
  replace f3 := f3.keep q24
  replace f7 := f7.keep q24
  replace B := B.trans (q24.mono B.size)
  have q24_s := q24.size
  have c25 := Below.refl w22.heap.size w22
  refine colL_all h0 f3 ?_
  refine colL_all h1 f7 ?_
  refine c_laws_toColouring h0 fun w26 q27 => ?_
  replace f3 := f3.keep q27
  replace f7 := f7.keep q27
  replace B := B.trans (q27.mono B.size)
  replace c25 := c25.trans (q27.mono c25.size)
  have q27_s := q27.size
  refine ⟨c25, ?_⟩
  refine c_laws_toColouring h1 fun w29 q30 => ?_
  replace f3 := f3.keep q30
  replace f7 := f7.keep q30
  replace B := B.trans (q30.mono B.size)
  replace c25 := c25.trans (q30.mono c25.size)
  have q30_s := q30.size
  refine ⟨c25, ?_⟩
  refine c_impl_AreIsomorphic h0 h1 fun w32 q33 => ?_
  replace f3 := f3.keep q33
  replace f7 := f7.keep q33
  replace B := B.trans (q33.mono B.size)
  replace c25 := c25.trans (q33.mono c25.size)
  have q33_s := q33.size
  refine ⟨c25, ?_⟩
  refine neqB Try.underlyingTb ?_
  refine ⟨fun e35 => absurd e35 (by simp), fun _ => ?_⟩
  refine ⟨fun e36 => absurd rfl (ne_t e36), fun _ => ?_⟩
  exact hK _ B

end Go.Proofs.Ytkadckhealbdaaa
