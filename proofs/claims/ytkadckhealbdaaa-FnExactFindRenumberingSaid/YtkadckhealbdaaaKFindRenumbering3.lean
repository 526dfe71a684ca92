/- Texts that the law FnExactFindRenumbering needs, joined. No condition. -/
import Derived.Test.YtkadckhealbdaaaKFindRenumbering2
/- The reading of laws_FnExactFindRenumbering, and its contract. No condition. -/
namespace Go.Proofs.Ytkadckhealbdaaa
open Go Go.RowKit Eng Mem
set_option linter.unusedVariables false
set_option maxRecDepth 100000
def V_laws_FnExactFindRenumbering (aX0 : Value) (aY1 : Value) (w : World) (K : Bool → World → Prop) : Prop :=
  (Pr Try.prog (Instr.box 24 aX0) w (.one .any) fun (aX2_2 : Value) w_1 => (Pr Try.prog (Instr.box 24 aY1) w_1 (.one .any) fun (aY3_4 : Value) w_3 => (∀ w_5, Drew w_3 w_5 → (QSub Try.prog (Instr.loadAt 24 aX2_2) w_5 .any fun (x14_6 : Value) => (QSub Try.prog (Instr.loadAt 24 aY3_4) w_5 .any fun (x16_7 : Value) => (Fc Try.prog 15 #[x14_6] w_5 (.one .any) fun (x15_9 : Value) w_8 => (Keeps w_5 w_8 ((Fc Try.prog 15 #[x16_7] w_8 (.one .any) fun (x17_11 : Value) w_10 => (Keeps w_5 w_10 ((Fc Try.prog 32 #[x15_9, x17_11] w_10 (.two .any (.int .i64)) fun (x18_13 : Value × Int) w_12 => (Keeps w_5 w_12 ((∀ w_14, Drew w_12 w_14 → (QSub Try.prog (Instr.loadAt 24 aX2_2) w_14 .any fun (x22_15 : Value) => (QSub Try.prog (Instr.loadAt 24 aY3_4) w_14 .any fun (x24_16 : Value) => (Fc Try.prog 15 #[x22_15] w_14 (.one .any) fun (x23_18 : Value) w_17 => (Keeps w_14 w_17 ((Fc Try.prog 15 #[x24_16] w_17 (.one .any) fun (x25_20 : Value) w_19 => (Keeps w_14 w_19 ((Fc Try.prog 33 #[x23_18, x25_20] w_19 (.two .any (.int .i64)) fun (x26_22 : Value × Int) w_21 => (Keeps w_14 w_21 ((Fc Try.prog 20 #[x26_22.1, x18_13.1] w_21 (.one .bool) fun (x31_24 : Bool) w_23 => (((!x31_24) = true → K false w_23) ∧ ((!x31_24) = false → (((x26_22.2 != x18_13.2) = true → K false w_23) ∧ ((x26_22.2 != x18_13.2) = false → (Fc Try.prog 21 #[x26_22.1, (.int .i64 (1 : Int))] w_23 (.one (.int .i64)) fun (x40_26 : Int) w_25 => (Fc Try.prog 22 #[x26_22.1, (.int .i64 (1 : Int))] w_25 (.one (.int .i64)) fun (x43_28 : Int) w_27 => (((decide (x43_28 < (0 : Int))) = true → K false w_27) ∧ ((decide (x43_28 < (0 : Int))) = false → (((x43_28 != x40_26) = true → K false w_27) ∧ ((x43_28 != x40_26) = false → (∀ w_29, Drew w_27 w_29 → (QSub Try.prog (Instr.loadAt 24 aX2_2) w_29 .any fun (x50_30 : Value) => (QSub Try.prog (Instr.loadAt 24 aY3_4) w_29 .any fun (x52_31 : Value) => (Fc Try.prog 15 #[x50_30] w_29 (.one .any) fun (x51_33 : Value) w_32 => (Keeps w_29 w_32 ((Fc Try.prog 15 #[x52_31] w_32 (.one .any) fun (x53_35 : Value) w_34 => (Keeps w_29 w_34 ((Fc Try.prog 33 #[x51_33, x53_35] w_34 (.two .any (.int .i64)) fun (x54_37 : Value × Int) w_36 => (Keeps w_29 w_36 ((Fc Try.prog 20 #[x54_37.1, x18_13.1] w_36 (.one .bool) fun (x59_39 : Bool) w_38 => (((!x59_39) = true → K false w_38) ∧ ((!x59_39) = false → (((x54_37.2 != x18_13.2) = true → K false w_38) ∧ ((x54_37.2 != x18_13.2) = false → (Fc Try.prog 22 #[x26_22.1, (.int .i64 (1 : Int))] w_38 (.one (.int .i64)) fun (x68_41 : Int) w_40 => (((decide (x68_41 < (0 : Int))) = true → K false w_40) ∧ ((decide (x68_41 < (0 : Int))) = false → (((x68_41 != x40_26) = true → K false w_40) ∧ ((x68_41 != x40_26) = false → K true w_40)))))))))))))))))))))))))))))))))))))))))))))))))))))))))))

theorem eq_laws_FnExactFindRenumbering (aX0 : Value) (aY1 : Value) (w : World) (K : Bool → World → Prop) :
    W Try.prog ty (fun _ _ _ _ => False) (bodyOf Try.f9) (fnPost Try.prog Try.f9.results.toList (.one .bool) K) (frame0 [aX0, aY1] 74) w = V_laws_FnExactFindRenumbering aX0 aY1 w K := by
  kernel_rfl

theorem body_laws_FnExactFindRenumbering : Try.f9.body = some (bodyOf Try.f9) := by kernel_rfl
theorem name_laws_FnExactFindRenumbering : (Try.f9.name == "runtime.NumGoroutine") = false := by kernel_rfl

theorem walk_laws_FnExactFindRenumbering (aX0 : Value) (aY1 : Value) {w : World} {K : Bool → World → Prop} (h : V_laws_FnExactFindRenumbering aX0 aY1 w K) : Fc Try.prog 9 #[aX0, aY1] w (.one .bool) K :=
  fn_ok follows (sound_none _) Try.func9 name_laws_FnExactFindRenumbering body_laws_FnExactFindRenumbering Try.ntmps9 [aX0, aY1] (Eq.mpr (eq_laws_FnExactFindRenumbering aX0 aY1 w K) h)

-- uses S2Sl
-- uses S9Law
theorem c_laws_FnExactFindRenumbering {c0 : Col} {c1 : Col} {w : World} {K : Bool → World → Prop} (h0 : c0.Ok) (h1 : c1.Ok) (hK : ∀ w', Below w.heap.size w w' → K true w') :
    Fc Try.prog F_laws_FnExactFindRenumbering #[c0.val, c1.val] w (.one .bool) K := by
  refine walk_laws_FnExactFindRenumbering _ _ ?_
  have B := Below.refl w.heap.size w
  refine colL_box fun b4 w1 b4_l b4_h q2 f3 => ?_
  replace B := B.trans (q2.mono B.size)
  have q2_s := q2.size
  refine colL_box fun b8 w5 b8_l b8_h q6 f7 => ?_
  replace f3 := f3.keep q6
  replace B := B.trans (q6.mono B.size)
  have q6_s := q6.size
  intro w9 d10
  have q11 := d10.below w5.heap.size
  replace f3 := f3.keep q11
  replace f7 := f7.keep q11
  replace B := B.trans (q11.mono B.size)
  have q11_s := q11.size
  have c12 := Below.refl w9.heap.size w9
  refine colL_all h0 f3 ?_
  refine colL_all h1 f7 ?_
  refine c_laws_toColouring h0 fun w13 q14 => ?_
  replace f3 := f3.keep q14
  replace f7 := f7.keep q14
  replace B := B.trans (q14.mono B.size)
  replace c12 := c12.trans (q14.mono c12.size)
  have q14_s := q14.size
  refine ⟨c12, ?_⟩
  refine c_laws_toColouring h1 fun w16 q17 => ?_
  replace f3 := f3.keep q17
  replace f7 := f7.keep q17
  replace B := B.trans (q17.mono B.size)
  replace c12 := c12.trans (q17.mono c12.size)
  have q17_s := q17.size
  refine ⟨c12, ?_⟩
  refine c_spec_FindRenumbering h0 h1 fun w19 v22 q20 f23 => ?_
  replace f3 := f3.keep q20
  replace f7 := f7.keep q20
  replace B := B.trans (q20.mono B.size)
  replace c12 := c12.trans (q20.mono c12.size)
  have q20_s := q20.size
  refine ⟨c12, ?_⟩
  intro w24 d25
  have q26 := d25.below w19.heap.size
  replace f3 := f3.keep q26
  replace f7 := f7.keep q26
  replace f23 := f23.keep q26
  replace B := B.trans (q26.mono B.size)
  have q26_s := q26.size
  have c27 := Below.refl w24.heap.size w24
  refine colL_all h0 f3 ?_
  refine colL_all h1 f7 ?_
  refine c_laws_toColouring h0 fun w28 q29 => ?_
  replace f3 := f3.keep q29
  replace f7 := f7.keep q29
  replace f23 := f23.keep q29
  replace B := B.trans (q29.mono B.size)
  replace c27 := c27.trans (q29.mono c27.size)
  have q29_s := q29.size
  refine ⟨c27, ?_⟩
  refine c_laws_toColouring h1 fun w31 q32 => ?_
  replace f3 := f3.keep q32
  replace f7 := f7.keep q32
  replace f23 := f23.keep q32
  replace B := B.trans (q32.mono B.size)
  replace c27 := c27.trans (q32.mono c27.size)
  have q32_s := q32.size
  refine ⟨c27, ?_⟩
  refine c_impl_FindRenumbering h0 h1 fun w34 v37 q35 f38 => ?_
  replace f3 := f3.keep q35
  replace f7 := f7.keep q35
  replace f23 := f23.keep q35
  replace B := B.trans (q35.mono B.size)
  replace c27 := c27.trans (q35.mono c27.size)
  have q35_s := q35.size
  refine ⟨c27, ?_⟩
  refine c_laws_eqInt64S f38.sl f23.sl fun w39 q40 => ?_
  replace f3 := f3.keep q40
  replace f7 := f7.keep q40
  replace f23 := f23.keep q40
  replace f38 := f38.keep q40
  replace B := B.trans (q40.mono B.size)
  replace c27 := c27.trans (q40.mono c27.size)
  have q40_s := q40.size
  refine ⟨fun e42 => absurd rfl (notd_t e42), fun _ => ?_⟩
  refine ⟨fun e43 => absurd rfl (ne_t e43), fun _ => ?_⟩
  refine c_laws_markInt64S f38 (by omega) (by omega) fun w44 q45 f46 => ?_
  replace f3 := f3.modr q45 (by omega)
  replace f7 := f7.modr q45 (by omega)
  replace f23 := f23.modr q45 (by omega)
  replace f38 := f46
  have q45_s := q45.size
  replace B := B.trans (q45.below (by omega) B.size)
  refine c_laws_heldInt64S f38 (by omega) (by omega) fun w47 q48 => ?_
  replace f3 := f3.keep q48
  replace f7 := f7.keep q48
  replace f23 := f23.keep q48
  replace f38 := f38.keep q48
  replace B := B.trans (q48.mono B.size)
  have q48_s := q48.size
  refine ⟨fun e50 => absurd (dec_t e50) (by omega), fun _ => ?_⟩
  refine ⟨fun e51 => absurd rfl (ne_t e51), fun _ => ?_⟩
  intro w52 d53
  have q54 := d53.below w47.heap.size
  replace f3 := f3.keep q54
  replace f7 := f7.keep q54
  replace f23 := f23.keep q54
  replace f38 := f38.keep q54
  replace B := B.trans (q54.mono B.size)
  have q54_s := q54.size
  have c55 := Below.refl w52.heap.size w52
  refine colL_all h0 f3 ?_
  refine colL_all h1 f7 ?_
  refine c_laws_toColouring h0 fun w56 q57 => ?_
  replace f3 := f3.keep q57
  replace f7 := f7.keep q57
  replace f23 := f23.keep q57
  replace f38 := f38.keep q57
  replace B := B.trans (q57.mono B.size)
  replace c55 := c55.trans (q57.mono c55.size)
  have q57_s := q57.size
  refine ⟨c55, ?_⟩
  refine c_laws_toColouring h1 fun w59 q60 => ?_
  replace f3 := f3.keep q60
  replace f7 := f7.keep q60
  replace f23 := f23.keep q60
  replace f38 := f38.keep q60
  replace B := B.trans (q60.mono B.size)
  replace c55 := c55.trans (q60.mono c55.size)
  have q60_s := q60.size
  refine ⟨c55, ?_⟩
  refine c_impl_FindRenumbering h0 h1 fun w62 v65 q63 f66 => ?_
  replace f3 := f3.keep q63
  replace f7 := f7.keep q63
  replace f23 := f23.keep q63
  replace f38 := f38.keep q63
  replace B := B.trans (q63.mono B.size)
  replace c55 := c55.trans (q63.mono c55.size)
  have q63_s := q63.size
  refine ⟨c55, ?_⟩
  refine c_laws_eqInt64S f66.sl f23.sl fun w67 q68 => ?_
  replace f3 := f3.keep q68
  replace f7 := f7.keep q68
  replace f23 := f23.keep q68
  replace f38 := f38.keep q68
  replace f66 := f66.keep q68
  replace B := B.trans (q68.mono B.size)
  replace c55 := c55.trans (q68.mono c55.size)
  have q68_s := q68.size
  refine ⟨fun e70 => absurd rfl (notd_t e70), fun _ => ?_⟩
  refine ⟨fun e71 => absurd rfl (ne_t e71), fun _ => ?_⟩
  refine c_laws_heldInt64S f38 (by omega) (by omega) fun w72 q73 => ?_
  replace f3 := f3.keep q73
  replace f7 := f7.keep q73
  replace f23 := f23.keep q73
  replace f38 := f38.keep q73
  replace f66 := f66.keep q73
  replace B := B.trans (q73.mono B.size)
  replace c55 := c55.trans (q73.mono c55.size)
  have q73_s := q73.size
  refine ⟨fun e75 => absurd (dec_t e75) (by omega), fun _ => ?_⟩
  refine ⟨fun e76 => absurd rfl (ne_t e76), fun _ => ?_⟩
  exact hK _ B

end Go.Proofs.Ytkadckhealbdaaa
