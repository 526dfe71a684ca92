/- The reading of laws_FnExactReflectPart, and its contract. No condition. -/
import Derived.Test.YtdnofmicjgppnaaTy
import Derived.Test.YtdnofmicjgppnaaS2Sl
import Derived.Test.YtdnofmicjgppnaaFimplUReflectPart
import Derived.Test.YtdnofmicjgppnaaFlawsUeqInt64S
import Derived.Test.YtdnofmicjgppnaaFlawsUheldInt64S
import Derived.Test.YtdnofmicjgppnaaFlawsUmarkInt64S
import Derived.Test.YtdnofmicjgppnaaFlawsUtoInt64S
import Derived.Test.YtdnofmicjgppnaaFspecUReflectPart
namespace Go.Proofs.Ytdnofmicjgppnaa
open Go Go.RowKit Eng Mem
set_option linter.unusedVariables false
set_option maxRecDepth 100000
def V_laws_FnExactReflectPart (aK0 : Int) (aPart1 : Value) (w : World) (K : Bool → World → Prop) : Prop :=
  (QAll Try.prog (Builtin.len_ #[22] 3 #[aPart1]) (.int .i64) fun (x16_1 : Int) => (((decide (x16_1 > (1048576 : Int))) = true → K true w) ∧ ((decide (x16_1 > (1048576 : Int))) = false → (Fc Try.prog 15 #[aPart1] w (.one .any) fun (x21_3 : Value) w_2 => (Fc Try.prog 25 #[(.int .i64 aK0), x21_3] w_2 (.two .any (.int .i64)) fun (x22_5 : Value × Int) w_4 => (Fc Try.prog 15 #[aPart1] w_4 (.one .any) fun (x26_7 : Value) w_6 => (Fc Try.prog 26 #[(.int .i64 aK0), x26_7] w_6 (.two .any (.int .i64)) fun (x30_9 : Value × Int) w_8 => (Fc Try.prog 17 #[x30_9.1, x22_5.1] w_8 (.one .bool) fun (x35_11 : Bool) w_10 => (((!x35_11) = true → K false w_10) ∧ ((!x35_11) = false → (((x30_9.2 != x22_5.2) = true → K false w_10) ∧ ((x30_9.2 != x22_5.2) = false → (Fc Try.prog 15 #[aPart1] w_10 (.one .any) fun (x44_13 : Value) w_12 => (Fc Try.prog 17 #[x26_7, x44_13] w_12 (.one .bool) fun (x45_15 : Bool) w_14 => (((!x45_15) = true → K false w_14) ∧ ((!x45_15) = false → (Fc Try.prog 18 #[x26_7, (.int .i64 (1 : Int))] w_14 (.one (.int .i64)) fun (x49_17 : Int) w_16 => (((decide (x49_17 < (0 : Int))) = true → K false w_16) ∧ ((decide (x49_17 < (0 : Int))) = false → (Fc Try.prog 17 #[x30_9.1, x22_5.1] w_16 (.one .bool) fun (x55_19 : Bool) w_18 => (((!x55_19) = true → K false w_18) ∧ ((!x55_19) = false → (((x30_9.2 != x22_5.2) = true → K false w_18) ∧ ((x30_9.2 != x22_5.2) = false → (Fc Try.prog 18 #[x30_9.1, (.int .i64 (1 : Int))] w_18 (.one (.int .i64)) fun (x65_21 : Int) w_20 => (Fc Try.prog 19 #[x30_9.1, (.int .i64 (1 : Int))] w_20 (.one (.int .i64)) fun (x68_23 : Int) w_22 => (((decide (x68_23 < (0 : Int))) = true → K false w_22) ∧ ((decide (x68_23 < (0 : Int))) = false → (((x68_23 != x65_21) = true → K false w_22) ∧ ((x68_23 != x65_21) = false → (Fc Try.prog 15 #[aPart1] w_22 (.one .any) fun (x77_25 : Value) w_24 => (Fc Try.prog 26 #[(.int .i64 aK0), x77_25] w_24 (.two .any (.int .i64)) fun (x78_27 : Value × Int) w_26 => (Fc Try.prog 17 #[x78_27.1, x22_5.1] w_26 (.one .bool) fun (x83_29 : Bool) w_28 => (((!x83_29) = true → K false w_28) ∧ ((!x83_29) = false → (((x78_27.2 != x22_5.2) = true → K false w_28) ∧ ((x78_27.2 != x22_5.2) = false → (Fc Try.prog 19 #[x30_9.1, (.int .i64 (1 : Int))] w_28 (.one (.int .i64)) fun (x92_31 : Int) w_30 => (((decide (x92_31 < (0 : Int))) = true → K false w_30) ∧ ((decide (x92_31 < (0 : Int))) = false → (((x92_31 != x65_21) = true → K false w_30) ∧ ((x92_31 != x65_21) = false → K true w_30))))))))))))))))))))))))))))))))))))))))))

theorem eq_laws_FnExactReflectPart (aK0 : Int) (aPart1 : Value) (w : World) (K : Bool → World → Prop) :
    W Try.prog ty (fun _ _ _ _ => False) (bodyOf Try.f6) (fnPost Try.prog Try.f6.results.toList (.one .bool) K) (frame0 [(.int .i64 aK0), aPart1] 98) w = V_laws_FnExactReflectPart aK0 aPart1 w K := by
  kernel_rfl

theorem body_laws_FnExactReflectPart : Try.f6.body = some (bodyOf Try.f6) := by kernel_rfl
theorem name_laws_FnExactReflectPart : (Try.f6.name == "runtime.NumGoroutine") = false := by kernel_rfl

theorem walk_laws_FnExactReflectPart (aK0 : Int) (aPart1 : Value) {w : World} {K : Bool → World → Prop} (h : V_laws_FnExactReflectPart aK0 aPart1 w K) : Fc Try.prog 6 #[(.int .i64 aK0), aPart1] w (.one .bool) K :=
  fn_ok follows (sound_none _) Try.func6 name_laws_FnExactReflectPart body_laws_FnExactReflectPart Try.ntmps6 [(.int .i64 aK0), aPart1] (Eq.mpr (eq_laws_FnExactReflectPart aK0 aPart1 w K) h)

-- uses S2Sl
theorem c_laws_FnExactReflectPart {n0 : Int} {a1 : Value} {l1 : List Int} {w : World} {K : Bool → World → Prop} (h0 : I64 n0) (h1 : SlI w a1 l1 ∧ InI l1) (hK : ∀ w', Below w.heap.size w w' → K true w') :
    Fc Try.prog F_laws_FnExactReflectPart #[.int .i64 n0, a1] w (.one .bool) K := by
  refine walk_laws_FnExactReflectPart _ _ ?_
  have B := Below.refl w.heap.size w
  refine lenI h1.1 ?_
  refine ⟨fun _ => hK _ B, fun e1 => ?_⟩
  have e1 := dec_f e1
  replace h1 : ArgI _ _ _ := ⟨h1.1, by first | omega | (have := h1.1.len; omega), h1.2⟩
  have h10 := h1
  refine c_laws_toInt64S h1 fun v5 w2 q3 f4 => ?_
  replace h1 := h1.keep q3
  replace B := B.trans (q3.mono B.size)
  have f4_in := h1.ins
  have q3_s := q3.size
  refine c_spec_ReflectPart h0 ⟨f4.sl, h1.len, h1.ins⟩ fun w6 v9 q7 f10 => ?_
  replace h1 := h1.keep q7
  replace f4 := f4.keep q7
  replace B := B.trans (q7.mono B.size)
  have q7_s := q7.size
  refine c_laws_toInt64S h1 fun v14 w11 q12 f13 => ?_
  replace h1 := h1.keep q12
  replace f4 := f4.keep q12
  replace f10 := f10.keep q12
  replace B := B.trans (q12.mono B.size)
  have f13_in := h1.ins
  have q12_s := q12.size
  refine c_impl_ReflectPart h0 ⟨f13.sl, h1.len, h1.ins⟩ fun w15 v18 q16 f19 => ?_
  replace h1 := h1.keep q16
  replace f4 := f4.keep q16
  replace f10 := f10.keep q16
  replace f13 := f13.keep q16
  replace B := B.trans (q16.mono B.size)
  have q16_s := q16.size
  refine c_laws_eqInt64S f19.sl f10.sl fun w20 q21 => ?_
  replace h1 := h1.keep q21
  replace f4 := f4.keep q21
  replace f10 := f10.keep q21
  replace f13 := f13.keep q21
  replace f19 := f19.keep q21
  replace B := B.trans (q21.mono B.size)
  have q21_s := q21.size
  refine ⟨fun e23 => absurd rfl (notd_t e23), fun _ => ?_⟩
  refine ⟨fun e24 => absurd rfl (ne_t e24), fun _ => ?_⟩
  refine c_laws_toInt64S h1 fun v28 w25 q26 f27 => ?_
  replace h1 := h1.keep q26
  replace f4 := f4.keep q26
  replace f10 := f10.keep q26
  replace f13 := f13.keep q26
  replace f19 := f19.keep q26
  replace B := B.trans (q26.mono B.size)
  have f27_in := h1.ins
  have q26_s := q26.size
  refine c_laws_eqInt64S f13.sl f27.sl fun w29 q30 => ?_
  replace h1 := h1.keep q30
  replace f4 := f4.keep q30
  replace f10 := f10.keep q30
  replace f13 := f13.keep q30
  replace f19 := f19.keep q30
  replace f27 := f27.keep q30
  replace B := B.trans (q30.mono B.size)
  have q30_s := q30.size
  refine ⟨fun e32 => absurd rfl (notd_t e32), fun _ => ?_⟩
  refine c_laws_markInt64S f13 (by omega) (by omega) fun w33 q34 f35 => ?_
  replace h1 := h10.keep (B.trans ((q34.below (by omega) B.size).mono (Nat.le_refl _)))
  replace f4 := f4.modr q34 (by omega)
  replace f10 := f10.modr q34 (by omega)
  replace f13 := f35
  replace f19 := f19.modr q34 (by omega)
  replace f27 := f27.modr q34 (by omega)
  have q34_s := q34.size
  replace B := B.trans (q34.below (by omega) B.size)
  refine ⟨fun e36 => absurd (dec_t e36) (by omega), fun _ => ?_⟩
  refine c_laws_eqInt64S f19.sl f10.sl fun w37 q38 => ?_
  replace h1 := h1.keep q38
  replace f4 := f4.keep q38
  replace f10 := f10.keep q38
  replace f13 := f13.keep q38
  replace f19 := f19.keep q38
  replace f27 := f27.keep q38
  replace B := B.trans (q38.mono B.size)
  have q38_s := q38.size
  refine ⟨fun e40 => absurd rfl (notd_t e40), fun _ => ?_⟩
  refine ⟨fun e41 => absurd rfl (ne_t e41), fun _ => ?_⟩
  refine c_laws_markInt64S f19 (by omega) (by omega) fun w42 q43 f44 => ?_
  replace h1 := h10.keep (B.trans ((q43.below (by omega) B.size).mono (Nat.le_refl _)))
  replace f4 := f4.modr q43 (by omega)
  replace f10 := f10.modr q43 (by omega)
  replace f13 := f13.modr q43 (by omega)
  replace f19 := f44
  replace f27 := f27.modr q43 (by omega)
  have q43_s := q43.size
  replace B := B.trans (q43.below (by omega) B.size)
  refine c_laws_heldInt64S f19 (by omega) (by omega) fun w45 q46 => ?_
  replace h1 := h1.keep q46
  replace f4 := f4.keep q46
  replace f10 := f10.keep q46
  replace f13 := f13.keep q46
  replace f19 := f19.keep q46
  replace f27 := f27.keep q46
  replace B := B.trans (q46.mono B.size)
  have q46_s := q46.size
  refine ⟨fun e48 => absurd (dec_t e48) (by omega), fun _ => ?_⟩
  refine ⟨fun e49 => absurd rfl (ne_t e49), fun _ => ?_⟩
  refine c_laws_toInt64S h1 fun v53 w50 q51 f52 => ?_
  replace h1 := h1.keep q51
  replace f4 := f4.keep q51
  replace f10 := f10.keep q51
  replace f13 := f13.keep q51
  replace f19 := f19.keep q51
  replace f27 := f27.keep q51
  replace B := B.trans (q51.mono B.size)
  have f52_in := h1.ins
  have q51_s := q51.size
  refine c_impl_ReflectPart h0 ⟨f52.sl, h1.len, h1.ins⟩ fun w54 v57 q55 f58 => ?_
  replace h1 := h1.keep q55
  replace f4 := f4.keep q55
  replace f10 := f10.keep q55
  replace f13 := f13.keep q55
  replace f19 := f19.keep q55
  replace f27 := f27.keep q55
  replace f52 := f52.keep q55
  replace B := B.trans (q55.mono B.size)
  have q55_s := q55.size
  refine c_laws_eqInt64S f58.sl f10.sl fun w59 q60 => ?_
  replace h1 := h1.keep q60
  replace f4 := f4.keep q60
  replace f10 := f10.keep q60
  replace f13 := f13.keep q60
  replace f19 := f19.keep q60
  replace f27 := f27.keep q60
  replace f52 := f52.keep q60
  replace f58 := f58.keep q60
  replace B := B.trans (q60.mono B.size)
  have q60_s := q60.size
  refine ⟨fun e62 => absurd rfl (notd_t e62), fun _ => ?_⟩
  refine ⟨fun e63 => absurd rfl (ne_t e63), fun _ => ?_⟩
  refine c_laws_heldInt64S f19 (by omega) (by omega) fun w64 q65 => ?_
  replace h1 := h1.keep q65
  replace f4 := f4.keep q65
  replace f10 := f10.keep q65
  replace f13 := f13.keep q65
  replace f19 := f19.keep q65
  replace f27 := f27.keep q65
  replace f52 := f52.keep q65
  replace f58 := f58.keep q65
  replace B := B.trans (q65.mono B.size)
  have q65_s := q65.size
  refine ⟨fun e67 => absurd (dec_t e67) (by omega), fun _ => ?_⟩
  refine ⟨fun e68 => absurd rfl (ne_t e68), fun _ => ?_⟩
  exact hK _ B

end Go.Proofs.Ytdnofmicjgppnaa
