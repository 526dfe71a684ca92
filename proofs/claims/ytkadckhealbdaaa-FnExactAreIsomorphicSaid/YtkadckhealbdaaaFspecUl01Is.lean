/- The reading of spec_l01Is, and its contract. No condition. -/
import Derived.Test.YtkadckhealbdaaaTy
import Derived.Test.YtkadckhealbdaaaS1Col
import Derived.Test.YtkadckhealbdaaaFspecUl01In
namespace Go.Proofs.Ytkadckhealbdaaa
open Go Go.RowKit Eng Mem
set_option linter.unusedVariables false
set_option maxRecDepth 100000
def B_spec_l01Is_5 (x1 : Value) (edges3 : Int) (e4 : Int) (N : (Value × Int) → Int → World → Prop) (D0 : (Unit) → World → Prop) (R : (Bool × Unit) → World → Prop) (w : World) : Prop :=
  (((decide (e4 < (136 : Int))) = true → (∀ w_15, Drew w w_15 → (((decide (e4 < edges3)) = true → (QAll Try.prog (Instr.fieldAt 25 x1 2) .any fun (x31_16 : Value) => (QAll Try.prog (Instr.indexAt 22 x31_16 (.int .i64 e4)) .any fun (x32_17 : Value) => (QSub Try.prog (Instr.loadAt 5 x32_17) w_15 (.int .u8) fun (x33_18 : Int) => (QAll Try.prog (convert 5 2 (.int .u8 x33_18)) (.int .i64) fun (x34_19 : Int) => (QAll Try.prog (Instr.fieldAt 25 x1 1) .any fun (x35_20 : Value) => (QSub Try.prog (Instr.loadAt 2 x35_20) w_15 (.int .i64) fun (x36_21 : Int) => (((decide (x34_19 ≥ x36_21)) = true → R (false, ()) w_15) ∧ ((decide (x34_19 ≥ x36_21)) = false → (((decide (e4 ≥ edges3)) = true → (QAll Try.prog (Instr.fieldAt 25 x1 2) .any fun (x45_22 : Value) => (QAll Try.prog (Instr.indexAt 22 x45_22 (.int .i64 e4)) .any fun (x46_23 : Value) => (QSub Try.prog (Instr.loadAt 5 x46_23) w_15 (.int .u8) fun (x47_24 : Int) => (((x47_24 != (0 : Int)) = true → R (false, ()) w_15) ∧ ((x47_24 != (0 : Int)) = false → N ((x1 : Value), edges3) (IntKind.i64.wrap (e4 + (1 : Int))) w_15)))))) ∧ ((decide (e4 ≥ edges3)) = false → N ((x1 : Value), edges3) (IntKind.i64.wrap (e4 + (1 : Int))) w_15))))))))))) ∧ ((decide (e4 < edges3)) = false → (((decide (e4 ≥ edges3)) = true → (QAll Try.prog (Instr.fieldAt 25 x1 2) .any fun (x45_25 : Value) => (QAll Try.prog (Instr.indexAt 22 x45_25 (.int .i64 e4)) .any fun (x46_26 : Value) => (QSub Try.prog (Instr.loadAt 5 x46_26) w_15 (.int .u8) fun (x47_27 : Int) => (((x47_27 != (0 : Int)) = true → R (false, ()) w_15) ∧ ((x47_27 != (0 : Int)) = false → N ((x1 : Value), edges3) (IntKind.i64.wrap (e4 + (1 : Int))) w_15)))))) ∧ ((decide (e4 ≥ edges3)) = false → N ((x1 : Value), edges3) (IntKind.i64.wrap (e4 + (1 : Int))) w_15)))))) ∧ ((decide (e4 < (136 : Int))) = false → D0 () w))

abbrev L_spec_l01Is_5_e0 : List Slot := [.junk, .junk, .junk, .junk, .junk, .junk, .junk, .junk, .junk, .junk, .junk, .junk, .junk, .junk, .junk, .junk, .junk, .junk, .junk, .junk, .junk, .junk, .junk, .junk, .junk, .junk, .junk, .junk, .junk, .junk, .junk, .junk, .junk, .junk, .junk, .junk, .junk, .junk, .junk, .junk, .junk, .junk, .junk, .junk, .junk, .junk, .junk, .junk, .junk, .junk, .junk]

abbrev L_spec_l01Is_5_sp : List Slot := [.junk, .k .any, .junk, .k (.int .i64), .k (.int .i64), .junk, .junk, .junk, .junk, .junk, .junk, .junk, .junk, .junk, .junk, .junk, .junk, .junk, .junk, .junk, .junk, .junk, .junk, .junk, .junk, .junk, .junk, .junk, .junk, .junk, .junk, .junk, .junk, .junk, .junk, .junk, .junk, .junk, .junk, .junk, .junk, .junk, .junk, .junk, .junk, .junk, .junk, .junk, .junk, .junk, .junk]
abbrev L_spec_l01Is_5_ex : List (Nat × List Slot) := [(0, L_spec_l01Is_5_e0)]
abbrev L_spec_l01Is_5_rt : List Slot := [.junk, .junk, .k .bool, .junk, .junk, .junk, .junk, .junk, .junk, .junk, .junk, .junk, .junk, .junk, .junk, .junk, .junk, .junk, .junk, .junk, .junk, .junk, .junk, .junk, .junk, .junk, .junk, .junk, .junk, .junk, .junk, .junk, .junk, .junk, .junk, .junk, .junk, .junk, .junk, .junk, .junk, .junk, .junk, .junk, .junk, .junk, .junk, .junk, .junk, .junk, .junk]

def L_spec_l01Is_5_b (Φ : Post) (u : (Value × Int)) (N : (Value × Int) → Int → World → Prop) (s : Int) (w : World) : Prop :=
  B_spec_l01Is_5 u.1 u.2 s N (fun v w => ∀ j : Nat → Value, Φ (.exit 0) (mkT j 0 L_spec_l01Is_5_e0 v) w) (fun v w => ∀ j : Nat → Value, Φ .ret (mkT j 0 L_spec_l01Is_5_rt v) w) w

theorem L_spec_l01Is_5_eq (j : Nat → Value) (u : (Value × Int)) (s : Int) (N : (Value × Int) → Int → World → Prop) (D0 : (Unit) → World → Prop) (R : (Bool × Unit) → World → Prop) (w : World) :
    W Try.prog ty (fun _ _ _ _ => False) (loopAt Try.f65 5) (loopPost L_spec_l01Is_5_sp [(0, (⟨L_spec_l01Is_5_e0, D0⟩ : Door))] ⟨L_spec_l01Is_5_rt, R⟩ (fun v w => N ((fun v => (v.1, v.2.1)) v) ((fun v => v.2.2.1) v) w)) (mkT j 0 L_spec_l01Is_5_sp ((fun u s => (u.1, u.2, s, ())) u s)) w =
    B_spec_l01Is_5 u.1 u.2 s N D0 R w := by
  kernel_rfl

def O_spec_l01Is_1 : Code → Post → List SV → World → Prop :=
  orc 5 (loopAt Try.f65 5) L_spec_l01Is_5_sp (fun Φ fr w => LOOP (U := (Value × Int)) (S := Int) ((fun v => (v.1, v.2.1)) (extT L_spec_l01Is_5_sp fr)) (L_spec_l01Is_5_b Φ ((fun v => (v.1, v.2.1)) (extT L_spec_l01Is_5_sp fr))) ((fun v => v.2.2.1) (extT L_spec_l01Is_5_sp fr)) w) (fun _ _ _ _ => False)

theorem O_spec_l01Is_1_ok : Sound Try.prog O_spec_l01Is_1 :=
  orc_ok (sound_none _) fun Φ fr w hs h => loop_ok (ty := ty) follows (sound_none _) L_spec_l01Is_5_sp (fun v => (v.1, v.2.1)) (fun v => v.2.2.1) (fun u s => (u.1, u.2, s, ())) (fun _ => rfl) L_spec_l01Is_5_ex L_spec_l01Is_5_rt (body := L_spec_l01Is_5_b Φ) (fun j u s w N hb => by
    have e := L_spec_l01Is_5_eq j u s N (doorOf Φ (.exit 0) L_spec_l01Is_5_e0).D (doorOf Φ .ret L_spec_l01Is_5_rt).D w
    exact Eq.mpr e hb) hs h

def V_spec_l01Is (x0 : Value) (w : World) (K : Bool → World → Prop) : Prop :=
  (Pr Try.prog (Instr.box 25 x0) w (.one .any) fun (x1_2 : Value) w_1 => (QAll Try.prog (Instr.fieldAt 25 x1_2 0) .any fun (x5_3 : Value) => (QSub Try.prog (Instr.loadAt 2 x5_3) w_1 (.int .i64) fun (x6_4 : Int) => (Fc Try.prog 43 #[(.int .i64 x6_4), (.int .i64 (1 : Int)), (.int .i64 (17 : Int))] w_1 (.one .bool) fun (x7_6 : Bool) w_5 => (((!x7_6) = true → K false w_5) ∧ ((!x7_6) = false → (QAll Try.prog (Instr.fieldAt 25 x1_2 1) .any fun (x10_7 : Value) => (QSub Try.prog (Instr.loadAt 2 x10_7) w_5 (.int .i64) fun (x11_8 : Int) => (Fc Try.prog 43 #[(.int .i64 x11_8), (.int .i64 (1 : Int)), (.int .i64 (4 : Int))] w_5 (.one .bool) fun (x12_10 : Bool) w_9 => (((!x12_10) = true → K false w_9) ∧ ((!x12_10) = false → (QAll Try.prog (Instr.fieldAt 25 x1_2 0) .any fun (x15_11 : Value) => (QSub Try.prog (Instr.loadAt 2 x15_11) w_9 (.int .i64) fun (x16_12 : Int) => (QAll Try.prog (Instr.fieldAt 25 x1_2 0) .any fun (x17_13 : Value) => (QSub Try.prog (Instr.loadAt 2 x17_13) w_9 (.int .i64) fun (x18_14 : Int) => ((2 : Int) ≠ 0 ∧ (At (loopAt Try.f65 5) (loopAt Try.f65 5) (LOOP (U := (Value × Int)) (S := Int) ((x1_2 : Value), (IntKind.i64.wrap (Int.tdiv (IntKind.i64.wrap (x16_12 * (IntKind.i64.wrap (x18_14 - (1 : Int))))) (2 : Int)))) (fun N_34 s_35 w_36 => B_spec_l01Is_5 (x1_2 : Value) (IntKind.i64.wrap (Int.tdiv (IntKind.i64.wrap (x16_12 * (IntKind.i64.wrap (x18_14 - (1 : Int))))) (2 : Int))) s_35 N_34 (fun (v_28 : (Unit)) w_29 => ∀ _j_30 : Nat → Value, K true w_29) (fun (v_31 : (Bool × Unit)) w_32 => ∀ _j_33 : Nat → Value, K v_31.1 w_32) w_36) (0 : Int) w_9))))))))))))))))))

theorem eq_spec_l01Is (x0 : Value) (w : World) (K : Bool → World → Prop) :
    W Try.prog ty O_spec_l01Is_1 (bodyOf Try.f65) (fnPost Try.prog Try.f65.results.toList (.one .bool) K) (frame0 [x0] 51) w = V_spec_l01Is x0 w K := by
  kernel_rfl

theorem body_spec_l01Is : Try.f65.body = some (bodyOf Try.f65) := by kernel_rfl
theorem name_spec_l01Is : (Try.f65.name == "runtime.NumGoroutine") = false := by kernel_rfl

theorem walk_spec_l01Is (x0 : Value) {w : World} {K : Bool → World → Prop} (h : V_spec_l01Is x0 w K) : Fc Try.prog 65 #[x0] w (.one .bool) K :=
  fn_ok follows O_spec_l01Is_1_ok Try.func65 name_spec_l01Is body_spec_l01Is Try.ntmps65 [x0] (Eq.mpr (eq_spec_l01Is x0 w K) h)

-- uses S1Col
theorem c_spec_l01Is {c : Col} {w : World} {K : Bool → World → Prop} (h : c.Ok) (hK : ∀ w', Below w.heap.size w w' → K (decide c.Is) w') :
    Fc Try.prog F_spec_l01Is #[c.val] w (.one .bool) K := by
  have no : ∀ w', Below w.heap.size w w' → ¬ c.Is → K false w' := fun w' hb hn => by rw [← Col.is_false hn]; exact hK w' hb
  refine walk_spec_l01Is c.val ?_
  refine col_box fun b w1 hn hx => ?_
  have hb1 := hn.below
  refine col_n hx (c_spec_l01In _ _ _ ⟨fun h1 => ?_, fun h1 => ?_⟩)
  · exact no w1 hb1 fun hi => by simp [hi.1, hi.2.1] at h1
  have h1 : 1 ≤ c.n ∧ c.n ≤ 17 := by simpa using h1
  refine col_k hx (c_spec_l01In _ _ _ ⟨fun h2 => ?_, fun h2 => ?_⟩)
  · exact no w1 hb1 fun hi => by simp [hi.2.2.1, hi.2.2.2.1] at h2
  have h2 : 1 ≤ c.k ∧ c.k ≤ 4 := by simpa using h2
  refine col_n hx (col_n hx ⟨by decide, ?_⟩)
  rw [wedges (by omega) h1.2]
  have hed := edges_le h1.1 h1.2
  refine ⟨rfl, ⟨⟨fun i w' => 0 ≤ i ∧ i ≤ 136 ∧ Below w1.heap.size w1 w' ∧ ∀ j : Nat, (j : Int) < i → c.at_ j, fun i _ => (136 - i).toNat, ⟨by omega, by omega, Below.refl _ _, fun j hj => by omega⟩, ?_⟩⟩⟩
  rintro i w' ⟨h0, hi, hb, hall⟩
  unfold B_spec_l01Is_5
  refine ⟨fun hlt => ?_, fun hge => ?_⟩
  · have hlt := of_decide_eq_true hlt
    intro w2 hd
    have hb2 := hb.trans (hd.below _)
    have hx' := hx.keep hb2
    have hbd := h.e_bd i.toNat
    have hit : ((i.toNat : Nat) : Int) = i := by omega
    have next : c.at_ i.toNat → (0 ≤ i + 1 ∧ i + 1 ≤ 136 ∧ Below w1.heap.size w1 w2 ∧ ∀ j : Nat, (j : Int) < i + 1 → c.at_ j) ∧ (136 - (i + 1)).toNat < (136 - i).toNat := fun ha =>
      ⟨⟨by omega, by omega, hb2, fun j hj => by
        by_cases hji : (j : Int) < i
        · exact hall j hji
        · have : j = i.toNat := by omega
          subst this; exact ha⟩, by omega⟩
    have fail : ¬ c.at_ i.toNat → K false w2 := fun hn => no w2 (hb1.trans (hb2.mono hb1.size)) fun hI => hn (hI.2.2.2.2 i.toNat (by omega))
    refine ⟨fun he => ?_, fun he => ?_⟩
    · have he := of_decide_eq_true he
      refine col_e h hx' h0 hlt (u8_int hbd.1 hbd.2 (col_k hx' ⟨fun hc => ?_, fun hc => ⟨fun hg => ?_, fun _ => ?_⟩⟩))
      · have hc := of_decide_eq_true hc
        refine fun _ => fail fun ha => ?_
        unfold Col.at_ at ha
        rw [if_pos (by omega)] at ha
        omega
      · have hg := of_decide_eq_true hg
        omega
      · have hc := of_decide_eq_false hc
        rw [wrap_small (by omega) (by omega)]
        exact ⟨rfl, next (by unfold Col.at_; rw [if_pos (by omega)]; omega)⟩
    · have he := of_decide_eq_false he
      refine ⟨fun _ => col_e h hx' h0 hlt ⟨fun hz => ?_, fun hz => ?_⟩, fun hg => ?_⟩
      · refine fun _ => fail fun ha => ?_
        unfold Col.at_ at ha
        rw [if_neg (by omega)] at ha
        simp [ha] at hz
      · rw [wrap_small (by omega) (by omega)]
        exact ⟨rfl, next (by unfold Col.at_; rw [if_neg (by omega)]; simpa using hz)⟩
      · have hg := of_decide_eq_false hg
        omega
  · have hge := of_decide_eq_false hge
    intro _
    have : c.Is := ⟨h1.1, h1.2, h2.1, h2.2, fun j hj => hall j (by omega)⟩
    rw [← Col.is_true this]
    exact hK w' (hb1.trans (hb.mono hb1.size))

end Go.Proofs.Ytkadckhealbdaaa
