/- The reading of laws_FnExactColoursNext, and its contract. No condition. -/
import Derived.Test.YtkadckhealbdaaaTy
import Derived.Test.YtkadckhealbdaaaS2Sl
import Derived.Test.YtkadckhealbdaaaFimplUColoursNext
import Derived.Test.YtkadckhealbdaaaFlawsUeqInt64S
import Derived.Test.YtkadckhealbdaaaFlawsUheldInt64S
import Derived.Test.YtkadckhealbdaaaFlawsUmarkInt64S
import Derived.Test.YtkadckhealbdaaaFlawsUtoInt64S
import Derived.Test.YtkadckhealbdaaaFspecUColoursNext
namespace Go.Proofs.Ytkadckhealbdaaa
open Go Go.RowKit Eng Mem
set_option linter.unusedVariables false
set_option maxRecDepth 100000
def V_laws_FnExactColoursNext (aK0 : Int) (aPart1 : Value) (aKind2 : Int) (w : World) (K : Bool → World → Prop) : Prop :=
  (QAll Try.prog (Builtin.len_ #[31] 3 #[aPart1]) (.int .i64) fun (x18_1 : Int) => (((decide (x18_1 > (1048576 : Int))) = true → K true w) ∧ ((decide (x18_1 > (1048576 : Int))) = false → (Fc Try.prog 24 #[aPart1] w (.one .any) fun (x23_3 : Value) w_2 => (Fc Try.prog 23 #[(.int .i64 aK0), x23_3, (.int .i64 aKind2)] w_2 (.two .any (.int .i64)) fun (x25_5 : Value × Int) w_4 => (Fc Try.prog 24 #[aPart1] w_4 (.one .any) fun (x29_7 : Value) w_6 => (Fc Try.prog 25 #[(.int .i64 aK0), x29_7, (.int .i64 aKind2)] w_6 (.two .any (.int .i64)) fun (x34_9 : Value × Int) w_8 => (Fc Try.prog 20 #[x34_9.1, x25_5.1] w_8 (.one .bool) fun (x39_11 : Bool) w_10 => (((!x39_11) = true → K false w_10) ∧ ((!x39_11) = false → (((x34_9.2 != x25_5.2) = true → K false w_10) ∧ ((x34_9.2 != x25_5.2) = false → (Fc Try.prog 24 #[aPart1] w_10 (.one .any) fun (x48_13 : Value) w_12 => (Fc Try.prog 20 #[x29_7, x48_13] w_12 (.one .bool) fun (x49_15 : Bool) w_14 => (((!x49_15) = true → K false w_14) ∧ ((!x49_15) = false → (Fc Try.prog 21 #[x29_7, (.int .i64 (1 : Int))] w_14 (.one (.int .i64)) fun (x53_17 : Int) w_16 => (((decide (x53_17 < (0 : Int))) = true → K false w_16) ∧ ((decide (x53_17 < (0 : Int))) = false → (Fc Try.prog 20 #[x34_9.1, x25_5.1] w_16 (.one .bool) fun (x59_19 : Bool) w_18 => (((!x59_19) = true → K false w_18) ∧ ((!x59_19) = false → (((x34_9.2 != x25_5.2) = true → K false w_18) ∧ ((x34_9.2 != x25_5.2) = false → (Fc Try.prog 21 #[x34_9.1, (.int .i64 (1 : Int))] w_18 (.one (.int .i64)) fun (x69_21 : Int) w_20 => (Fc Try.prog 22 #[x34_9.1, (.int .i64 (1 : Int))] w_20 (.one (.int .i64)) fun (x72_23 : Int) w_22 => (((decide (x72_23 < (0 : Int))) = true → K false w_22) ∧ ((decide (x72_23 < (0 : Int))) = false → (((x72_23 != x69_21) = true → K false w_22) ∧ ((x72_23 != x69_21) = false → (Fc Try.prog 24 #[aPart1] w_22 (.one .any) fun (x81_25 : Value) w_24 => (Fc Try.prog 25 #[(.int .i64 aK0), x81_25, (.int .i64 aKind2)] w_24 (.two .any (.int .i64)) fun (x83_27 : Value × Int) w_26 => (Fc Try.prog 20 #[x83_27.1, x25_5.1] w_26 (.one .bool) fun (x88_29 : Bool) w_28 => (((!x88_29) = true → K false w_28) ∧ ((!x88_29) = false → (((x83_27.2 != x25_5.2) = true → K false w_28) ∧ ((x83_27.2 != x25_5.2) = false → (Fc Try.prog 22 #[x34_9.1, (.int .i64 (1 : Int))] w_28 (.one (.int .i64)) fun (x97_31 : Int) w_30 => (((decide (x97_31 < (0 : Int))) = true → K false w_30) ∧ ((decide (x97_31 < (0 : Int))) = false → (((x97_31 != x69_21) = true → K false w_30) ∧ ((x97_31 != x69_21) = false → K true w_30))))))))))))))))))))))))))))))))))))))))))

theorem eq_laws_FnExactColoursNext (aK0 : Int) (aPart1 : Value) (aKind2 : Int) (w : World) (K : Bool → World → Prop) :
    W Try.prog ty (fun _ _ _ _ => False) (bodyOf Try.f5) (fnPost Try.prog Try.f5.results.toList (.one .bool) K) (frame0 [(.int .i64 aK0), aPart1, (.int .i64 aKind2)] 103) w = V_laws_FnExactColoursNext aK0 aPart1 aKind2 w K := by
  kernel_rfl

theorem body_laws_FnExactColoursNext : Try.f5.body = some (bodyOf Try.f5) := by kernel_rfl
theorem name_laws_FnExactColoursNext : (Try.f5.name == "runtime.NumGoroutine") = false := by kernel_rfl

theorem walk_laws_FnExactColoursNext (aK0 : Int) (aPart1 : Value) (aKind2 : Int) {w : World} {K : Bool → World → Prop} (h : V_laws_FnExactColoursNext aK0 aPart1 aKind2 w K) : Fc Try.prog 5 #[(.int .i64 aK0), aPart1, (.int .i64 aKind2)] w (.one .bool) K :=
  fn_ok follows (sound_none _) Try.func5 name_laws_FnExactColoursNext body_laws_FnExactColoursNext Try.ntmps5 [(.int .i64 aK0), aPart1, (.int .i64 aKind2)] (Eq.mpr (eq_laws_FnExactColoursNext aK0 aPart1 aKind2 w K) h)

-- uses S2Sl
theorem c_laws_FnExactColoursNext {n0 : Int} {a1 : Value} {l1 : List Int} {n2 : Int} {w : World} {K : Bool → World → Prop} (h0 : I64 n0) (h1 : SlI w a1 l1 ∧ InI l1) (h2 : I64 n2) (hK : ∀ w', Below w.heap.size w w' → K true w') :
    Fc Try.prog F_laws_FnExactColoursNext #[.int .i64 n0, a1, .int .i64 n2] w (.one .bool) K := by
  refine walk_laws_FnExactColoursNext _ _ _ ?_
  have B := Below.refl w.heap.size w
  refine lenI h1.1 ?_
  refine ⟨fun _ => hK _ B, fun e1 => ?_⟩
  have e1 := dec_f e1
  replace h1 : ArgI _ _ _ := ⟨h1.1, by first | omega | (have := h1.1.len; omega), h1.2⟩
  have h10 := h1
  refine c_laws_toInt64S h1 fun v5 w2 q3 f4 => ?_
  replace h1 := h1.keep q3
  replace B := B.trans (q3.mono B.size)
  have f4_in := h1.ins
  have q3_s := q3.size
  refine c_spec_ColoursNext h0 ⟨f4.sl, h1.len, h1.ins⟩ h2 fun w6 v9 q7 f10 => ?_
  replace h1 := h1.keep q7
  replace f4 := f4.keep q7
  replace B := B.trans (q7.mono B.size)
  have q7_s := q7.size
  refine c_laws_toInt64S h1 fun v14 w11 q12 f13 => ?_
  replace h1 := h1.keep q12
  replace f4 := f4.keep q12
  replace f10 := f10.keep q12
  replace B := B.trans (q12.mono B.size)
  have f13_in := h1.ins
  have q12_s := q12.size
  refine c_impl_ColoursNext h0 ⟨f13.sl, h1.len, h1.ins⟩ h2 fun w15 v18 q16 f19 => ?_
  replace h1 := h1.keep q16
  replace f4 := f4.keep q16
  replace f10 := f10.keep q16
  replace f13 := f13.keep q16
  replace B := B.trans (q16.mono B.size)
  have q16_s := q16.size
  refine c_laws_eqInt64S f19.sl f10.sl fun w20 q21 => ?_
  replace h1 := h1.keep q21
  replace f4 := f4.keep q21
  replace f10 := f10.keep q21
  replace f13 := f13.keep q21
  replace f19 := f19.keep q21
  replace B := B.trans (q21.mono B.size)
  have q21_s := q21.size
  refine ⟨fun e23 => absurd rfl (notd_t e23), fun _ => ?_⟩
  refine ⟨fun e24 => absurd rfl (ne_t e24), fun _ => ?_⟩
  refine c_laws_toInt64S h1 fun v28 w25 q26 f27 => ?_
  replace h1 := h1.keep q26
  replace f4 := f4.keep q26
  replace f10 := f10.keep q26
  replace f13 := f13.keep q26
  replace f19 := f19.keep q26
  replace B := B.trans (q26.mono B.size)
  have f27_in := h1.ins
  have q26_s := q26.size
  refine c_laws_eqInt64S f13.sl f27.sl fun w29 q30 => ?_
  replace h1 := h1.keep q30
  replace f4 := f4.keep q30
  replace f10 := f10.keep q30
  replace f13 := f13.keep q30
  replace f19 := f19.keep q30
  replace f27 := f27.keep q30
  replace B := B.trans (q30.mono B.size)
  have q30_s := q30.size
  refine ⟨fun e32 => absurd rfl (notd_t e32), fun _ => ?_⟩
  refine c_laws_markInt64S f13 (by omega) (by omega) fun w33 q34 f35 => ?_
  replace h1 := h10.keep (B.trans ((q34.below (by omega) B.size).mono (Nat.le_refl _)))
  replace f4 := f4.modr q34 (by omega)
  replace f10 := f10.modr q34 (by omega)
  replace f13 := f35
  replace f19 := f19.modr q34 (by omega)
  replace f27 := f27.modr q34 (by omega)
  have q34_s := q34.size
  replace B := B.trans (q34.below (by omega) B.size)
  refine ⟨fun e36 => absurd (dec_t e36) (by omega), fun _ => ?_⟩
  refine c_laws_eqInt64S f19.sl f10.sl fun w37 q38 => ?_
  replace h1 := h1.keep q38
  replace f4 := f4.keep q38
  replace f10 := f10.keep q38
  replace f13 := f13.keep q38
  replace f19 := f19.keep q38
  replace f27 := f27.keep q38
  replace B := B.trans (q38.mono B.size)
  have q38_s := q38.size
  refine ⟨fun e40 => absurd rfl (notd_t e40), fun _ => ?_⟩
  refine ⟨fun e41 => absurd rfl (ne_t e41), fun _ => ?_⟩
  refine c_laws_markInt64S f19 (by omega) (by omega) fun w42 q43 f44 => ?_
  replace h1 := h10.keep (B.trans ((q43.below (by omega) B.size).mono (Nat.le_refl _)))
  replace f4 := f4.modr q43 (by omega)
  replace f10 := f10.modr q43 (by omega)
  replace f13 := f13.modr q43 (by omega)
  replace f19 := f44
  replace f27 := f27.modr q43 (by omega)
  have q43_s := q43.size
  replace B := B.trans (q43.below (by omega) B.size)
  refine c_laws_heldInt64S f19 (by omega) (by omega) fun w45 q46 => ?_
  replace h1 := h1.keep q46
  replace f4 := f4.keep q46
  replace f10 := f10.keep q46
  replace f13 := f13.keep q46
  replace f19 := f19.keep q46
  replace f27 := f27.keep q46
  replace B := B.trans (q46.mono B.size)
  have q46_s := q46.size
  refine ⟨fun e48 => absurd (dec_t e48) (by omega), fun _ => ?_⟩
  refine ⟨fun e49 => absurd rfl (ne_t e49), fun _ => ?_⟩
  refine c_laws_toInt64S h1 fun v53 w50 q51 f52 => ?_
  replace h1 := h1.keep q51
  replace f4 := f4.keep q51
  replace f10 := f10.keep q51
  replace f13 := f13.keep q51
  replace f19 := f19.keep q51
  replace f27 := f27.keep q51
  replace B := B.trans (q51.mono B.size)
  have f52_in := h1.ins
  have q51_s := q51.size
  refine c_impl_ColoursNext h0 ⟨f52.sl, h1.len, h1.ins⟩ h2 fun w54 v57 q55 f58 => ?_
  replace h1 := h1.keep q55
  replace f4 := f4.keep q55
  replace f10 := f10.keep q55
  replace f13 := f13.keep q55
  replace f19 := f19.keep q55
  replace f27 := f27.keep q55
  replace f52 := f52.keep q55
  replace B := B.trans (q55.mono B.size)
  have q55_s := q55.size
  refine c_laws_eqInt64S f58.sl f10.sl fun w59 q60 => ?_
  replace h1 := h1.keep q60
  replace f4 := f4.keep q60
  replace f10 := f10.keep q60
  replace f13 := f13.keep q60
  replace f19 := f19.keep q60
  replace f27 := f27.keep q60
  replace f52 := f52.keep q60
  replace f58 := f58.keep q60
  replace B := B.trans (q60.mono B.size)
  have q60_s := q60.size
  refine ⟨fun e62 => absurd rfl (notd_t e62), fun _ => ?_⟩
  refine ⟨fun e63 => absurd rfl (ne_t e63), fun _ => ?_⟩
  refine c_laws_heldInt64S f19 (by omega) (by omega) fun w64 q65 => ?_
  replace h1 := h1.keep q65
  replace f4 := f4.keep q65
  replace f10 := f10.keep q65
  replace f13 := f13.keep q65
  replace f19 := f19.keep q65
  replace f27 := f27.keep q65
  replace f52 := f52.keep q65
  replace f58 := f58.keep q65
  replace B := B.trans (q65.mono B.size)
  have q65_s := q65.size
  refine ⟨fun e67 => absurd (dec_t e67) (by omega), fun _ => ?_⟩
  refine ⟨fun e68 => absurd rfl (ne_t e68), fun _ => ?_⟩
  exact hK _ B

end Go.Proofs.Ytkadckhealbdaaa
