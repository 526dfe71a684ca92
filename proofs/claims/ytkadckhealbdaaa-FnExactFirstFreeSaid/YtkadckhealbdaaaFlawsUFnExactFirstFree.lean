/- The reading of laws_FnExactFirstFree, and its contract. No condition. -/
import Derived.Test.YtkadckhealbdaaaTy
import Derived.Test.YtkadckhealbdaaaS2Sl
import Derived.Test.YtkadckhealbdaaaFimplUFirstFree
import Derived.Test.YtkadckhealbdaaaFlawsUeqInt64S
import Derived.Test.YtkadckhealbdaaaFlawsUheldInt64S
import Derived.Test.YtkadckhealbdaaaFlawsUmarkInt64S
import Derived.Test.YtkadckhealbdaaaFspecUFirstFree
namespace Go.Proofs.Ytkadckhealbdaaa
open Go Go.RowKit Eng Mem
set_option linter.unusedVariables false
set_option maxRecDepth 100000
def V_laws_FnExactFirstFree (aN0 : Int) (aK1 : Int) (aKind2 : Int) (w : World) (K : Bool → World → Prop) : Prop :=
  (Fc Try.prog 18 #[(.int .i64 aN0), (.int .i64 aK1), (.int .i64 aKind2)] w (.two .any (.int .i64)) fun (x19_2 : Value × Int) w_1 => (Fc Try.prog 19 #[(.int .i64 aN0), (.int .i64 aK1), (.int .i64 aKind2)] w_1 (.two .any (.int .i64)) fun (x26_4 : Value × Int) w_3 => (Fc Try.prog 20 #[x26_4.1, x19_2.1] w_3 (.one .bool) fun (x31_6 : Bool) w_5 => (((!x31_6) = true → K false w_5) ∧ ((!x31_6) = false → (((x26_4.2 != x19_2.2) = true → K false w_5) ∧ ((x26_4.2 != x19_2.2) = false → (Fc Try.prog 21 #[x26_4.1, (.int .i64 (1 : Int))] w_5 (.one (.int .i64)) fun (x40_8 : Int) w_7 => (Fc Try.prog 22 #[x26_4.1, (.int .i64 (1 : Int))] w_7 (.one (.int .i64)) fun (x43_10 : Int) w_9 => (((decide (x43_10 < (0 : Int))) = true → K false w_9) ∧ ((decide (x43_10 < (0 : Int))) = false → (((x43_10 != x40_8) = true → K false w_9) ∧ ((x43_10 != x40_8) = false → (Fc Try.prog 19 #[(.int .i64 aN0), (.int .i64 aK1), (.int .i64 aKind2)] w_9 (.two .any (.int .i64)) fun (x53_12 : Value × Int) w_11 => (Fc Try.prog 20 #[x53_12.1, x19_2.1] w_11 (.one .bool) fun (x58_14 : Bool) w_13 => (((!x58_14) = true → K false w_13) ∧ ((!x58_14) = false → (((x53_12.2 != x19_2.2) = true → K false w_13) ∧ ((x53_12.2 != x19_2.2) = false → (Fc Try.prog 22 #[x26_4.1, (.int .i64 (1 : Int))] w_13 (.one (.int .i64)) fun (x67_16 : Int) w_15 => (((decide (x67_16 < (0 : Int))) = true → K false w_15) ∧ ((decide (x67_16 < (0 : Int))) = false → (((x67_16 != x40_8) = true → K false w_15) ∧ ((x67_16 != x40_8) = false → K true w_15))))))))))))))))))))))))

theorem eq_laws_FnExactFirstFree (aN0 : Int) (aK1 : Int) (aKind2 : Int) (w : World) (K : Bool → World → Prop) :
    W Try.prog ty (fun _ _ _ _ => False) (bodyOf Try.f4) (fnPost Try.prog Try.f4.results.toList (.one .bool) K) (frame0 [(.int .i64 aN0), (.int .i64 aK1), (.int .i64 aKind2)] 73) w = V_laws_FnExactFirstFree aN0 aK1 aKind2 w K := by
  kernel_rfl

theorem body_laws_FnExactFirstFree : Try.f4.body = some (bodyOf Try.f4) := by kernel_rfl
theorem name_laws_FnExactFirstFree : (Try.f4.name == "runtime.NumGoroutine") = false := by kernel_rfl

theorem walk_laws_FnExactFirstFree (aN0 : Int) (aK1 : Int) (aKind2 : Int) {w : World} {K : Bool → World → Prop} (h : V_laws_FnExactFirstFree aN0 aK1 aKind2 w K) : Fc Try.prog 4 #[(.int .i64 aN0), (.int .i64 aK1), (.int .i64 aKind2)] w (.one .bool) K :=
  fn_ok follows (sound_none _) Try.func4 name_laws_FnExactFirstFree body_laws_FnExactFirstFree Try.ntmps4 [(.int .i64 aN0), (.int .i64 aK1), (.int .i64 aKind2)] (Eq.mpr (eq_laws_FnExactFirstFree aN0 aK1 aKind2 w K) h)

-- uses S2Sl
theorem c_laws_FnExactFirstFree {n0 : Int} {n1 : Int} {n2 : Int} {w : World} {K : Bool → World → Prop} (h0 : I64 n0) (h1 : I64 n1) (h2 : I64 n2) (hK : ∀ w', Below w.heap.size w w' → K true w') :
    Fc Try.prog F_laws_FnExactFirstFree #[.int .i64 n0, .int .i64 n1, .int .i64 n2] w (.one .bool) K := by
  refine walk_laws_FnExactFirstFree _ _ _ ?_
  have B := Below.refl w.heap.size w
  refine c_spec_FirstFree h0 h1 h2 fun w1 v4 q2 f5 => ?_
  replace B := B.trans (q2.mono B.size)
  have q2_s := q2.size
  refine c_impl_FirstFree h0 h1 h2 fun w6 v9 q7 f10 => ?_
  replace f5 := f5.keep q7
  replace B := B.trans (q7.mono B.size)
  have q7_s := q7.size
  refine c_laws_eqInt64S f10.sl f5.sl fun w11 q12 => ?_
  replace f5 := f5.keep q12
  replace f10 := f10.keep q12
  replace B := B.trans (q12.mono B.size)
  have q12_s := q12.size
  refine ⟨fun e14 => absurd rfl (notd_t e14), fun _ => ?_⟩
  refine ⟨fun e15 => absurd rfl (ne_t e15), fun _ => ?_⟩
  refine c_laws_markInt64S f10 (by omega) (by omega) fun w16 q17 f18 => ?_
  replace f5 := f5.modr q17 (by omega)
  replace f10 := f18
  have q17_s := q17.size
  replace B := B.trans (q17.below (by omega) B.size)
  refine c_laws_heldInt64S f10 (by omega) (by omega) fun w19 q20 => ?_
  replace f5 := f5.keep q20
  replace f10 := f10.keep q20
  replace B := B.trans (q20.mono B.size)
  have q20_s := q20.size
  refine ⟨fun e22 => absurd (dec_t e22) (by omega), fun _ => ?_⟩
  refine ⟨fun e23 => absurd rfl (ne_t e23), fun _ => ?_⟩
  refine c_impl_FirstFree h0 h1 h2 fun w24 v27 q25 f28 => ?_
  replace f5 := f5.keep q25
  replace f10 := f10.keep q25
  replace B := B.trans (q25.mono B.size)
  have q25_s := q25.size
  refine c_laws_eqInt64S f28.sl f5.sl fun w29 q30 => ?_
  replace f5 := f5.keep q30
  replace f10 := f10.keep q30
  replace f28 := f28.keep q30
  replace B := B.trans (q30.mono B.size)
  have q30_s := q30.size
  refine ⟨fun e32 => absurd rfl (notd_t e32), fun _ => ?_⟩
  refine ⟨fun e33 => absurd rfl (ne_t e33), fun _ => ?_⟩
  refine c_laws_heldInt64S f10 (by omega) (by omega) fun w34 q35 => ?_
  replace f5 := f5.keep q35
  replace f10 := f10.keep q35
  replace f28 := f28.keep q35
  replace B := B.trans (q35.mono B.size)
  have q35_s := q35.size
  refine ⟨fun e37 => absurd (dec_t e37) (by omega), fun _ => ?_⟩
  refine ⟨fun e38 => absurd rfl (ne_t e38), fun _ => ?_⟩
  exact hK _ B

end Go.Proofs.Ytkadckhealbdaaa
