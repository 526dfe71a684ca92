/- The reading of laws_FnExactListOfDigital, and its contract. No condition. -/
import Derived.Test.YtdkodhonaoecnaaTy
import Derived.Test.YtdkodhonaoecnaaS2Sl
import Derived.Test.YtdkodhonaoecnaaFimplUListOfDigital
import Derived.Test.YtdkodhonaoecnaaFlawsUeqInt64S
import Derived.Test.YtdkodhonaoecnaaFlawsUheldInt64S
import Derived.Test.YtdkodhonaoecnaaFlawsUmarkInt64S
import Derived.Test.YtdkodhonaoecnaaFlawsUtoColouring
import Derived.Test.YtdkodhonaoecnaaFspecUListOfDigital
namespace Go.Proofs.Ytdkodhonaoecnaa
open Go Go.RowKit Eng Mem
set_option linter.unusedVariables false
set_option maxRecDepth 100000
def V_laws_FnExactListOfDigital (aX0 : Value) (w : World) (K : Bool → World → Prop) : Prop :=
  (Pr Try.prog (Instr.box 35 aX0) w (.one .any) fun (aX1_2 : Value) w_1 => (QSub Try.prog (Instr.loadAt 35 aX1_2) w_1 .any fun (x12_3 : Value) => (Fc Try.prog 25 #[x12_3] w_1 (.one .any) fun (x13_5 : Value) w_4 => (Fc Try.prog 43 #[x13_5] w_4 (.two .any (.int .i64)) fun (x14_7 : Value × Int) w_6 => (QSub Try.prog (Instr.loadAt 35 aX1_2) w_6 .any fun (x18_8 : Value) => (Fc Try.prog 25 #[x18_8] w_6 (.one .any) fun (x19_10 : Value) w_9 => (Fc Try.prog 44 #[x19_10] w_9 (.two .any (.int .i64)) fun (x20_12 : Value × Int) w_11 => (Fc Try.prog 21 #[x20_12.1, x14_7.1] w_11 (.one .bool) fun (x25_14 : Bool) w_13 => (((!x25_14) = true → K false w_13) ∧ ((!x25_14) = false → (((x20_12.2 != x14_7.2) = true → K false w_13) ∧ ((x20_12.2 != x14_7.2) = false → (Fc Try.prog 33 #[x20_12.1, (.int .i64 (1 : Int))] w_13 (.one (.int .i64)) fun (x34_16 : Int) w_15 => (Fc Try.prog 34 #[x20_12.1, (.int .i64 (1 : Int))] w_15 (.one (.int .i64)) fun (x37_18 : Int) w_17 => (((decide (x37_18 < (0 : Int))) = true → K false w_17) ∧ ((decide (x37_18 < (0 : Int))) = false → (((x37_18 != x34_16) = true → K false w_17) ∧ ((x37_18 != x34_16) = false → (QSub Try.prog (Instr.loadAt 35 aX1_2) w_17 .any fun (x44_19 : Value) => (Fc Try.prog 25 #[x44_19] w_17 (.one .any) fun (x45_21 : Value) w_20 => (Fc Try.prog 44 #[x45_21] w_20 (.two .any (.int .i64)) fun (x46_23 : Value × Int) w_22 => (Fc Try.prog 21 #[x46_23.1, x14_7.1] w_22 (.one .bool) fun (x51_25 : Bool) w_24 => (((!x51_25) = true → K false w_24) ∧ ((!x51_25) = false → (((x46_23.2 != x14_7.2) = true → K false w_24) ∧ ((x46_23.2 != x14_7.2) = false → (Fc Try.prog 34 #[x20_12.1, (.int .i64 (1 : Int))] w_24 (.one (.int .i64)) fun (x60_27 : Int) w_26 => (((decide (x60_27 < (0 : Int))) = true → K false w_26) ∧ ((decide (x60_27 < (0 : Int))) = false → (((x60_27 != x34_16) = true → K false w_26) ∧ ((x60_27 != x34_16) = false → K true w_26)))))))))))))))))))))))))))))))

theorem eq_laws_FnExactListOfDigital (aX0 : Value) (w : World) (K : Bool → World → Prop) :
    W Try.prog ty (fun _ _ _ _ => False) (bodyOf Try.f14) (fnPost Try.prog Try.f14.results.toList (.one .bool) K) (frame0 [aX0] 66) w = V_laws_FnExactListOfDigital aX0 w K := by
  kernel_rfl

theorem body_laws_FnExactListOfDigital : Try.f14.body = some (bodyOf Try.f14) := by kernel_rfl
theorem name_laws_FnExactListOfDigital : (Try.f14.name == "runtime.NumGoroutine") = false := by kernel_rfl

theorem walk_laws_FnExactListOfDigital (aX0 : Value) {w : World} {K : Bool → World → Prop} (h : V_laws_FnExactListOfDigital aX0 w K) : Fc Try.prog 14 #[aX0] w (.one .bool) K :=
  fn_ok follows (sound_none _) Try.func14 name_laws_FnExactListOfDigital body_laws_FnExactListOfDigital Try.ntmps14 [aX0] (Eq.mpr (eq_laws_FnExactListOfDigital aX0 w K) h)

-- uses S2Sl
theorem c_laws_FnExactListOfDigital {c0 : Col} {w : World} {K : Bool → World → Prop} (h0 : c0.Ok) (hK : ∀ w', Below w.heap.size w w' → K true w') :
    Fc Try.prog F_laws_FnExactListOfDigital #[c0.val] w (.one .bool) K := by
  refine walk_laws_FnExactListOfDigital _ ?_
  have B := Below.refl w.heap.size w
  refine colL_box fun b4 w1 b4_l b4_h q2 f3 => ?_
  replace B := B.trans (q2.mono B.size)
  have q2_s := q2.size
  refine colL_all h0 f3 ?_
  refine c_laws_toColouring h0 fun w5 q6 => ?_
  replace f3 := f3.keep q6
  replace B := B.trans (q6.mono B.size)
  have q6_s := q6.size
  refine c_spec_ListOfDigital h0 fun w8 v11 q9 f12 => ?_
  replace f3 := f3.keep q9
  replace B := B.trans (q9.mono B.size)
  have q9_s := q9.size
  refine colL_all h0 f3 ?_
  refine c_laws_toColouring h0 fun w13 q14 => ?_
  replace f3 := f3.keep q14
  replace f12 := f12.keep q14
  replace B := B.trans (q14.mono B.size)
  have q14_s := q14.size
  refine c_impl_ListOfDigital h0 fun w16 v19 q17 f20 => ?_
  replace f3 := f3.keep q17
  replace f12 := f12.keep q17
  replace B := B.trans (q17.mono B.size)
  have q17_s := q17.size
  refine c_laws_eqInt64S f20.sl f12.sl fun w21 q22 => ?_
  replace f3 := f3.keep q22
  replace f12 := f12.keep q22
  replace f20 := f20.keep q22
  replace B := B.trans (q22.mono B.size)
  have q22_s := q22.size
  refine ⟨fun e24 => absurd rfl (notd_t e24), fun _ => ?_⟩
  refine ⟨fun e25 => absurd rfl (ne_t e25), fun _ => ?_⟩
  refine c_laws_markInt64S f20 (by omega) (by omega) fun w26 q27 f28 => ?_
  replace f3 := f3.modr q27 (by omega)
  replace f12 := f12.modr q27 (by omega)
  replace f20 := f28
  have q27_s := q27.size
  replace B := B.trans (q27.below (by omega) B.size)
  refine c_laws_heldInt64S f20 (by omega) (by omega) fun w29 q30 => ?_
  replace f3 := f3.keep q30
  replace f12 := f12.keep q30
  replace f20 := f20.keep q30
  replace B := B.trans (q30.mono B.size)
  have q30_s := q30.size
  refine ⟨fun e32 => absurd (dec_t e32) (by omega), fun _ => ?_⟩
  refine ⟨fun e33 => absurd rfl (ne_t e33), fun _ => ?_⟩
  refine colL_all h0 f3 ?_
  refine c_laws_toColouring h0 fun w34 q35 => ?_
  replace f3 := f3.keep q35
  replace f12 := f12.keep q35
  replace f20 := f20.keep q35
  replace B := B.trans (q35.mono B.size)
  have q35_s := q35.size
  refine c_impl_ListOfDigital h0 fun w37 v40 q38 f41 => ?_
  replace f3 := f3.keep q38
  replace f12 := f12.keep q38
  replace f20 := f20.keep q38
  replace B := B.trans (q38.mono B.size)
  have q38_s := q38.size
  refine c_laws_eqInt64S f41.sl f12.sl fun w42 q43 => ?_
  replace f3 := f3.keep q43
  replace f12 := f12.keep q43
  replace f20 := f20.keep q43
  replace f41 := f41.keep q43
  replace B := B.trans (q43.mono B.size)
  have q43_s := q43.size
  refine ⟨fun e45 => absurd rfl (notd_t e45), fun _ => ?_⟩
  refine ⟨fun e46 => absurd rfl (ne_t e46), fun _ => ?_⟩
  refine c_laws_heldInt64S f20 (by omega) (by omega) fun w47 q48 => ?_
  replace f3 := f3.keep q48
  replace f12 := f12.keep q48
  replace f20 := f20.keep q48
  replace f41 := f41.keep q48
  replace B := B.trans (q48.mono B.size)
  have q48_s := q48.size
  refine ⟨fun e50 => absurd (dec_t e50) (by omega), fun _ => ?_⟩
  refine ⟨fun e51 => absurd rfl (ne_t e51), fun _ => ?_⟩
  exact hK _ B

end Go.Proofs.Ytdkodhonaoecnaa
