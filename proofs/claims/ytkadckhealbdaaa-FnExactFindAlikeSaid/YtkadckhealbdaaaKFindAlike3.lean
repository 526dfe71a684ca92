/- Texts that the law FnExactFindAlike needs, joined. No condition. -/
import Derived.Test.YtkadckhealbdaaaKFindAlike2
/- The reading of spec_l01Is, and its contract. No condition. -/
namespace Go.Proofs.Ytkadckhealbdaaa
open Go Go.RowKit Eng Mem
set_option linter.unusedVariables false
set_option maxRecDepth 100000
def B_spec_l01Is_5 (x1 : Value) (edges3 : Int) (e4 : Int) (N : (Value × Int) → Int → World → Prop) (D0 : (Unit) → World → Prop) (R : (Bool × Unit) → World → Prop) (w : World) : Prop :=
  (((decide (e4 < (136 : Int))) = true → (∀ w_15, Drew w w_15 → (((decide (e4 < edges3)) = true → (QAll Try.prog (Instr.fieldAt 25 x1 2) .any fun (x31_16 : Value) => (QAll Try.prog (Instr.indexAt 22 x31_16 (.int .i64 e4)) .any fun (x32_17 : Value) => (QSub Try.prog (Instr.loadAt 5 x32_17) w_15 (.int .u8) fun (x33_18 : Int) => (QAll Try.prog (convert 5 2 (.int .u8 x33_18)) (.int .i64) fun (x34_19 : Int) => (QAll Try.prog (Instr.fieldAt 25 x1 1) .any fun (x35_20 : Value) => (QSub Try.prog (Instr.loadAt 2 x35_20) w_15 (.int .i64) fun (x36_21 : Int) => (((decide (x34_19 ≥ x36_21)) = true → R (false, ()) w_15) ∧ ((decide (x34_19 ≥ x36_21)) = false → (((decide (e4 ≥ edges3)) = true → (QAll Try.prog (Instr.fieldAt 25 x1 2) .any fun (x45_22 : Value) => (QAll Try.prog (Instr.indexAt 22 x45_22 (.int .i64 e4)) .any fun (x46_23 : Value) => (QSub Try.prog (Instr.loadAt 5 x46_23) w_15 (.int .u8) fun (x47_24 : Int) => (((x47_24 != (0 : Int)) = true → R (false, ()) w_15) ∧ ((x47_24 != (0 : Int)) = false → N ((x1 : Value), edges3) (IntKind.i64.wrap (e4 + (1 : Int))) w_15)))))) ∧ ((decide (e4 ≥ edges3)) = false → N ((x1 : Value), edges3) (IntKind.i64.wrap (e4 + (1 : Int))) w_15))))))))))) ∧ ((decide (e4 < edges3)) = false → (((decide (e4 ≥ edges3)) = true → (QAll Try.prog (Instr.fieldAt 25 x1 2) .any fun (x45_25 : Value) => (QAll Try.prog (Instr.indexAt 22 x45_25 (.int .i64 e4)) .any fun (x46_26 : Value) => (QSub Try.prog (Instr.loadAt 5 x46_26) w_15 (.int .u8) fun (x47_27 : Int) => (((x47_27 != (0 : Int)) = true → R (false, ()) w_15) ∧ ((x47_27 != (0 : Int)) = false → N ((x1 : Value), edges3) (IntKind.i64.wrap (e4 + (1 : Int))) w_15)))))) ∧ ((decide (e4 ≥ edges3)) = false → N ((x1 : Value), edges3) (IntKind.i64.wrap (e4 + (1 : Int))) w_15)))))) ∧ ((decide (e4 < (136 : Int))) = false → D0 () w))

abbrev L_spec_l01Is_5_e0 : List Slot := [.junk, .junk, .junk, .junk, .junk, .junk, .junk, .junk, .junk, .junk, .junk, .junk, .junk, .junk, .junk, .junk, .junk, .junk, .junk, .junk, .junk, .junk, .junk, .junk, .junk, .junk, .junk, .junk, .junk, .junk, .junk, .junk, .junk, .junk, .junk, .junk, .junk, .junk, .junk, .junk, .junk, .junk, .junk, .junk, .junk, .junk, .junk, .junk, .junk, .junk, .junk]

abbrev L_spec_l01Is_5_sp : List Slot := [.junk, .k .any, .junk, .k (.int .i64), .k (.int .i64), .junk, .junk, .junk, .junk, .junk, .junk, .junk, .junk, .junk, .junk, .junk, .junk, .junk, .junk, .junk, .junk, .junk, .junk, .junk, .junk, .junk, .junk, .junk, .junk, .junk, .junk, .junk, .junk, .junk, .junk, .junk, .junk, .junk, .junk, .junk, .junk, .junk, .junk, .junk, .junk, .junk, .junk, .junk, .junk, .junk, .junk]
abbrev L_spec_l01Is_5_ex : List (Nat × List Slot) := [(0, L_spec_l01Is_5_e0)]
abbrev L_spec_l01Is_5_rt : List Slot := [.junk, .junk, .k .bool, .junk, .junk, .junk, .junk, .junk, .junk, .junk, .junk, .junk, .junk, .junk, .junk, .junk, .junk, .junk, .junk, .junk, .junk, .junk, .junk, .junk, .junk, .junk, .junk, .junk, .junk, .junk, .junk, .junk, .junk, .junk, .junk, .junk, .junk, .junk, .junk, .junk, .junk, .junk, .junk, .junk, .junk, .junk, .junk, .junk, .junk, .junk, .junk]

def L_spec_l01Is_5_b (Φ : Post) (u : (Value × Int)) (N : (Value × Int) → Int → World → Prop) (s : Int) (w : World) : Prop :=
  B_spec_l01Is_5 u.1 u.2 s N (fun v w => ∀ j : Nat → Value, Φ (.exit 0) (mkT j 0 L_spec_l01Is_5_e0 v) w) (fun v w => ∀ j : Nat → Value, Φ .ret (mkT j 0 L_spec_l01Is_5_rt v) w) w

theorem L_spec_l01Is_5_eq (j : Nat → Value) (u : (Value × Int)) (s : Int) (N : (Value × Int) → Int → World → Prop) (D0 : (Unit) → World → Prop) (R : (Bool × Unit) → World → Prop) (w : World) :
    W Try.prog ty (fun _ _ _ _ => False) (loopAt Try.f65 5) (loopPost L_spec_l01Is_5_sp [(0, (⟨L_spec_l01Is_5_e0, D0⟩ : Door))] ⟨L_spec_l01Is_5_rt, R⟩ (fun v w => N ((fun v => (v.1, v.2.1)) v) ((fun v => v.2.2.1) v) w)) (mkT j 0 L_spec_l01Is_5_sp ((fun u s => (u.1, u.2, s, ())) u s)) w =
    B_spec_l01Is_5 u.1 u.2 s N D0 R w := by
  kernel_rfl

def O_spec_l01Is_1 : Code → Post → List SV → World → Prop :=
  orc 5 (loopAt Try.f65 5) L_spec_l01Is_5_sp (fun Φ fr w => LOOP (U := (Value × Int)) (S := Int) ((fun v => (v.1, v.2.1)) (extT L_spec_l01Is_5_sp fr)) (L_spec_l01Is_5_b Φ ((fun v => (v.1, v.2.1)) (extT L_spec_l01Is_5_sp fr))) ((fun v => v.2.2.1) (extT L_spec_l01Is_5_sp fr)) w) (fun _ _ _ _ => False)

theorem O_spec_l01Is_1_ok : Sound Try.prog O_spec_l01Is_1 :=
  orc_ok (sound_none _) fun Φ fr w hs h => loop_ok (ty := ty) follows (sound_none _) L_spec_l01Is_5_sp (fun v => (v.1, v.2.1)) (fun v => v.2.2.1) (fun u s => (u.1, u.2, s, ())) (fun _ => rfl) L_spec_l01Is_5_ex L_spec_l01Is_5_rt (body := L_spec_l01Is_5_b Φ) (fun j u s w N hb => by
    have e := L_spec_l01Is_5_eq j u s N (doorOf Φ (.exit 0) L_spec_l01Is_5_e0).D (doorOf Φ .ret L_spec_l01Is_5_rt).D w
    exact Eq.mpr e hb) hs h

def V_spec_l01Is (x0 : Value) (w : World) (K : Bool → World → Prop) : Prop :=
  (Pr Try.prog (Instr.box 25 x0) w (.one .any) fun (x1_2 : Value) w_1 => (QAll Try.prog (Instr.fieldAt 25 x1_2 0) .any fun (x5_3 : Value) => (QSub Try.prog (Instr.loadAt 2 x5_3) w_1 (.int .i64) fun (x6_4 : Int) => (Fc Try.prog 43 #[(.int .i64 x6_4), (.int .i64 (1 : Int)), (.int .i64 (17 : Int))] w_1 (.one .bool) fun (x7_6 : Bool) w_5 => (((!x7_6) = true → K false w_5) ∧ ((!x7_6) = false → (QAll Try.prog (Instr.fieldAt 25 x1_2 1) .any fun (x10_7 : Value) => (QSub Try.prog (Instr.loadAt 2 x10_7) w_5 (.int .i64) fun (x11_8 : Int) => (Fc Try.prog 43 #[(.int .i64 x11_8), (.int .i64 (1 : Int)), (.int .i64 (4 : Int))] w_5 (.one .bool) fun (x12_10 : Bool) w_9 => (((!x12_10) = true → K false w_9) ∧ ((!x12_10) = false → (QAll Try.prog (Instr.fieldAt 25 x1_2 0) .any fun (x15_11 : Value) => (QSub Try.prog (Instr.loadAt 2 x15_11) w_9 (.int .i64) fun (x16_12 : Int) => (QAll Try.prog (Instr.fieldAt 25 x1_2 0) .any fun (x17_13 : Value) => (QSub Try.prog (Instr.loadAt 2 x17_13) w_9 (.int .i64) fun (x18_14 : Int) => ((2 : Int) ≠ 0 ∧ (At (loopAt Try.f65 5) (loopAt Try.f65 5) (LOOP (U := (Value × Int)) (S := Int) ((x1_2 : Value), (IntKind.i64.wrap (Int.tdiv (IntKind.i64.wrap (x16_12 * (IntKind.i64.wrap (x18_14 - (1 : Int))))) (2 : Int)))) (fun N_34 s_35 w_36 => B_spec_l01Is_5 (x1_2 : Value) (IntKind.i64.wrap (Int.tdiv (IntKind.i64.wrap (x16_12 * (IntKind.i64.wrap (x18_14 - (1 : Int))))) (2 : Int))) s_35 N_34 (fun (v_28 : (Unit)) w_29 => ∀ _j_30 : Nat → Value, K true w_29) (fun (v_31 : (Bool × Unit)) w_32 => ∀ _j_33 : Nat → Value, K v_31.1 w_32) w_36) (0 : Int) w_9))))))))))))))))))

theorem eq_spec_l01Is (x0 : Value) (w : World) (K : Bool → World → Prop) :
    W Try.prog ty O_spec_l01Is_1 (bodyOf Try.f65) (fnPost Try.prog Try.f65.results.toList (.one .bool) K) (frame0 [x0] 51) w = V_spec_l01Is x0 w K := by
  kernel_rfl

theorem body_spec_l01Is : Try.f65.body = some (bodyOf Try.f65) := by kernel_rfl
theorem name_spec_l01Is : (Try.f65.name == "runtime.NumGoroutine") = false := by kernel_rfl

theorem walk_spec_l01Is (x0 : Value) {w : World} {K : Bool → World → Prop} (h : V_spec_l01Is x0 w K) : Fc Try.prog 65 #[x0] w (.one .bool) K :=
  fn_ok follows O_spec_l01Is_1_ok Try.func65 name_spec_l01Is body_spec_l01Is Try.ntmps65 [x0] (Eq.mpr (eq_spec_l01Is x0 w K) h)

-- uses S1Col
theorem c_spec_l01Is {c : Col} {w : World} {K : Bool → World → Prop} (h : c.Ok) (hK : ∀ w', Below w.heap.size w w' → K (decide c.Is) w') :
    Fc Try.prog F_spec_l01Is #[c.val] w (.one .bool) K := by
  have no : ∀ w', Below w.heap.size w w' → ¬ c.Is → K false w' := fun w' hb hn => by rw [← Col.is_false hn]; exact hK w' hb
  refine walk_spec_l01Is c.val ?_
  refine col_box fun b w1 hn hx => ?_
  have hb1 := hn.below
  refine col_n hx (c_spec_l01In _ _ _ ⟨fun h1 => ?_, fun h1 => ?_⟩)
  · exact no w1 hb1 fun hi => by simp [hi.1, hi.2.1] at h1
  have h1 : 1 ≤ c.n ∧ c.n ≤ 17 := by simpa using h1
  refine col_k hx (c_spec_l01In _ _ _ ⟨fun h2 => ?_, fun h2 => ?_⟩)
  · exact no w1 hb1 fun hi => by simp [hi.2.2.1, hi.2.2.2.1] at h2
  have h2 : 1 ≤ c.k ∧ c.k ≤ 4 := by simpa using h2
  refine col_n hx (col_n hx ⟨by decide, ?_⟩)
  rw [wedges (by omega) h1.2]
  have hed := edges_le h1.1 h1.2
  refine ⟨rfl, ⟨⟨fun i w' => 0 ≤ i ∧ i ≤ 136 ∧ Below w1.heap.size w1 w' ∧ ∀ j : Nat, (j : Int) < i → c.at_ j, fun i _ => (136 - i).toNat, ⟨by omega, by omega, Below.refl _ _, fun j hj => by omega⟩, ?_⟩⟩⟩
  rintro i w' ⟨h0, hi, hb, hall⟩
  unfold B_spec_l01Is_5
  refine ⟨fun hlt => ?_, fun hge => ?_⟩
  · have hlt := of_decide_eq_true hlt
    intro w2 hd
    have hb2 := hb.trans (hd.below _)
    have hx' := hx.keep hb2
    have hbd := h.e_bd i.toNat
    have hit : ((i.toNat : Nat) : Int) = i := by omega
    have next : c.at_ i.toNat → (0 ≤ i + 1 ∧ i + 1 ≤ 136 ∧ Below w1.heap.size w1 w2 ∧ ∀ j : Nat, (j : Int) < i + 1 → c.at_ j) ∧ (136 - (i + 1)).toNat < (136 - i).toNat := fun ha =>
      ⟨⟨by omega, by omega, hb2, fun j hj => by
        by_cases hji : (j : Int) < i
        · exact hall j hji
        · have : j = i.toNat := by omega
          subst this; exact ha⟩, by omega⟩
    have fail : ¬ c.at_ i.toNat → K false w2 := fun hn => no w2 (hb1.trans (hb2.mono hb1.size)) fun hI => hn (hI.2.2.2.2 i.toNat (by omega))
    refine ⟨fun he => ?_, fun he => ?_⟩
    · have he := of_decide_eq_true he
      refine col_e h hx' h0 hlt (u8_int hbd.1 hbd.2 (col_k hx' ⟨fun hc => ?_, fun hc => ⟨fun hg => ?_, fun _ => ?_⟩⟩))
      · have hc := of_decide_eq_true hc
        refine fun _ => fail fun ha => ?_
        unfold Col.at_ at ha
        rw [if_pos (by omega)] at ha
        omega
      · have hg := of_decide_eq_true hg
        omega
      · have hc := of_decide_eq_false hc
        rw [wrap_small (by omega) (by omega)]
        exact ⟨rfl, next (by unfold Col.at_; rw [if_pos (by omega)]; omega)⟩
    · have he := of_decide_eq_false he
      refine ⟨fun _ => col_e h hx' h0 hlt ⟨fun hz => ?_, fun hz => ?_⟩, fun hg => ?_⟩
      · refine fun _ => fail fun ha => ?_
        unfold Col.at_ at ha
        rw [if_neg (by omega)] at ha
        simp [ha] at hz
      · rw [wrap_small (by omega) (by omega)]
        exact ⟨rfl, next (by unfold Col.at_; rw [if_neg (by omega)]; simpa using hz)⟩
      · have hg := of_decide_eq_false hg
        omega
  · have hge := of_decide_eq_false hge
    intro _
    have : c.Is := ⟨h1.1, h1.2, h2.1, h2.2, fun j hj => hall j (by omega)⟩
    rw [← Col.is_true this]
    exact hK w' (hb1.trans (hb.mono hb1.size))

end Go.Proofs.Ytkadckhealbdaaa

/- The reading of spec_l01Turned, and its contract. No condition. -/
namespace Go.Proofs.Ytkadckhealbdaaa
open Go Go.RowKit Eng Mem
set_option linter.unusedVariables false
set_option maxRecDepth 100000
def B_spec_l01Turned_2 (q1 : Value) (x2 : Value) (x4 : Value) (e5 : Int) (N : (Value × Value × Value) → Int → World → Prop) (D0 : (Value × Value × Unit) → World → Prop) (w : World) : Prop :=
  (QAll Try.prog (Instr.fieldAt 25 x2 0) .any fun (x7_5 : Value) => (QSub Try.prog (Instr.loadAt 2 x7_5) w (.int .i64) fun (x8_6 : Int) => (QAll Try.prog (Instr.fieldAt 25 x2 0) .any fun (x9_7 : Value) => (QSub Try.prog (Instr.loadAt 2 x9_7) w (.int .i64) fun (x10_8 : Int) => ((2 : Int) ≠ 0 ∧ (((decide (e5 < (IntKind.i64.wrap (Int.tdiv (IntKind.i64.wrap (x8_6 * (IntKind.i64.wrap (x10_8 - (1 : Int))))) (2 : Int))))) = true → (QAll Try.prog (Instr.fieldAt 25 x2 2) .any fun (x20_9 : Value) => (QAll Try.prog (Instr.indexAt 22 x20_9 (.int .i64 e5)) .any fun (x21_10 : Value) => (QSub Try.prog (Instr.loadAt 5 x21_10) w (.int .u8) fun (x22_11 : Int) => (QAll Try.prog (Instr.indexAt 31 q1 (.int .u8 x22_11)) .any fun (x23_12 : Value) => (QSub Try.prog (Instr.loadAt 2 x23_12) w (.int .i64) fun (x24_13 : Int) => (QAll Try.prog (convert 2 5 (.int .i64 x24_13)) (.int .u8) fun (x25_14 : Int) => (QAll Try.prog (Instr.fieldAt 25 x2 2) .any fun (x26_15 : Value) => (QAll Try.prog (Instr.indexAt 22 x26_15 (.int .i64 e5)) .any fun (x27_16 : Value) => (PrU Try.prog (Instr.storeAt 5 x27_16 (.int .u8 x25_14)) w fun w_17 => N ((q1 : Value), (x2 : Value), (x4 : Value)) (IntKind.i64.wrap (e5 + (1 : Int))) w_17)))))))))) ∧ ((decide (e5 < (IntKind.i64.wrap (Int.tdiv (IntKind.i64.wrap (x8_6 * (IntKind.i64.wrap (x10_8 - (1 : Int))))) (2 : Int))))) = false → D0 ((x2 : Value), (x4 : Value), ()) w)))))))

abbrev L_spec_l01Turned_2_e0 : List Slot := [.junk, .junk, .k .any, .junk, .k .any, .junk, .junk, .junk, .junk, .junk, .junk, .junk, .junk, .junk, .junk, .junk, .junk, .junk, .junk, .junk, .junk, .junk, .junk, .junk, .junk, .junk, .junk, .junk, .junk]

abbrev L_spec_l01Turned_2_sp : List Slot := [.junk, .k .any, .k .any, .junk, .k .any, .k (.int .i64), .junk, .junk, .junk, .junk, .junk, .junk, .junk, .junk, .junk, .junk, .junk, .junk, .junk, .junk, .junk, .junk, .junk, .junk, .junk, .junk, .junk, .junk, .junk]
abbrev L_spec_l01Turned_2_ex : List (Nat × List Slot) := [(0, L_spec_l01Turned_2_e0)]
abbrev L_spec_l01Turned_2_rt : List Slot := [.junk, .junk, .junk, .junk, .junk, .junk, .junk, .junk, .junk, .junk, .junk, .junk, .junk, .junk, .junk, .junk, .junk, .junk, .junk, .junk, .junk, .junk, .junk, .junk, .junk, .junk, .junk, .junk, .junk]

def L_spec_l01Turned_2_b (Φ : Post) (u : (Value × Value × Value)) (N : (Value × Value × Value) → Int → World → Prop) (s : Int) (w : World) : Prop :=
  B_spec_l01Turned_2 u.1 u.2.1 u.2.2 s N (fun v w => ∀ j : Nat → Value, Φ (.exit 0) (mkT j 0 L_spec_l01Turned_2_e0 v) w) w

theorem L_spec_l01Turned_2_eq (j : Nat → Value) (u : (Value × Value × Value)) (s : Int) (N : (Value × Value × Value) → Int → World → Prop) (D0 : (Value × Value × Unit) → World → Prop) (R : (Unit) → World → Prop) (w : World) :
    W Try.prog ty (fun _ _ _ _ => False) (loopAt Try.f44 2) (loopPost L_spec_l01Turned_2_sp [(0, (⟨L_spec_l01Turned_2_e0, D0⟩ : Door))] ⟨L_spec_l01Turned_2_rt, R⟩ (fun v w => N ((fun v => (v.1, v.2.1, v.2.2.1)) v) ((fun v => v.2.2.2.1) v) w)) (mkT j 0 L_spec_l01Turned_2_sp ((fun u s => (u.1, u.2.1, u.2.2, s, ())) u s)) w =
    B_spec_l01Turned_2 u.1 u.2.1 u.2.2 s N D0 w := by
  kernel_rfl

def O_spec_l01Turned_1 : Code → Post → List SV → World → Prop :=
  orc 2 (loopAt Try.f44 2) L_spec_l01Turned_2_sp (fun Φ fr w => LOOP (U := (Value × Value × Value)) (S := Int) ((fun v => (v.1, v.2.1, v.2.2.1)) (extT L_spec_l01Turned_2_sp fr)) (L_spec_l01Turned_2_b Φ ((fun v => (v.1, v.2.1, v.2.2.1)) (extT L_spec_l01Turned_2_sp fr))) ((fun v => v.2.2.2.1) (extT L_spec_l01Turned_2_sp fr)) w) (fun _ _ _ _ => False)

theorem O_spec_l01Turned_1_ok : Sound Try.prog O_spec_l01Turned_1 :=
  orc_ok (sound_none _) fun Φ fr w hs h => loop_ok (ty := ty) follows (sound_none _) L_spec_l01Turned_2_sp (fun v => (v.1, v.2.1, v.2.2.1)) (fun v => v.2.2.2.1) (fun u s => (u.1, u.2.1, u.2.2, s, ())) (fun _ => rfl) L_spec_l01Turned_2_ex L_spec_l01Turned_2_rt (body := L_spec_l01Turned_2_b Φ) (fun j u s w N hb => by
    have e := L_spec_l01Turned_2_eq j u s N (doorOf Φ (.exit 0) L_spec_l01Turned_2_e0).D (doorOf Φ .ret L_spec_l01Turned_2_rt).D w
    exact Eq.mpr e hb) hs h

def V_spec_l01Turned (x0 : Value) (q1 : Value) (w : World) (K : Value → World → Prop) : Prop :=
  (Pr Try.prog (Instr.box 25 x0) w (.one .any) fun (x2_2 : Value) w_1 => (Pr Try.prog (Instr.alloc 25 true (.tuple #[])) w_1 (.one .any) fun (x4_4 : Value) w_3 => (At (loopAt Try.f44 2) (loopAt Try.f44 2) (LOOP (U := (Value × Value × Value)) (S := Int) ((q1 : Value), (x2_2 : Value), (x4_4 : Value)) (fun N_26 s_27 w_28 => B_spec_l01Turned_2 (q1 : Value) (x2_2 : Value) (x4_4 : Value) s_27 N_26 (fun (v_19 : (Value × Value × Unit)) w_20 => ∀ _j_21 : Nat → Value, (QSub Try.prog (Instr.loadAt 25 v_19.1) w_20 .any fun (x28_22 : Value) => (PrU Try.prog (Instr.storeAt 25 v_19.2.1 x28_22) w_20 fun w_23 => (QSub Try.prog (Instr.loadAt 25 v_19.2.1) w_23 .any fun (r_25 : Value) => K (r_25 : Value) w_23)))) w_28) (0 : Int) w_3))))

theorem eq_spec_l01Turned (x0 : Value) (q1 : Value) (w : World) (K : Value → World → Prop) :
    W Try.prog ty O_spec_l01Turned_1 (bodyOf Try.f44) (fnPost Try.prog Try.f44.results.toList (.one .any) K) (frame0 [x0, q1] 29) w = V_spec_l01Turned x0 q1 w K := by
  kernel_rfl

theorem body_spec_l01Turned : Try.f44.body = some (bodyOf Try.f44) := by kernel_rfl
theorem name_spec_l01Turned : (Try.f44.name == "runtime.NumGoroutine") = false := by kernel_rfl

theorem walk_spec_l01Turned (x0 : Value) (q1 : Value) {w : World} {K : Value → World → Prop} (h : V_spec_l01Turned x0 q1 w K) : Fc Try.prog 44 #[x0, q1] w (.one .any) K :=
  fn_ok follows O_spec_l01Turned_1_ok Try.func44 name_spec_l01Turned body_spec_l01Turned Try.ntmps44 [x0, q1] (Eq.mpr (eq_spec_l01Turned x0 q1 w K) h)

-- uses S8Rec
theorem c_spec_l01Turned {a : Value} {c : Col} {l : List Int} {w : World} {K : Value → World → Prop} (hc : c.Ok) (hI : c.Is) (ha : SlI w a l) (hl : c.k ≤ l.length) (hf : ∀ e, 0 ≤ e → e < c.k → 0 ≤ l.getD e.toNat 0 ∧ l.getD e.toNat 0 < 256)
    (hK : ∀ w', Below w.heap.size w w' → K (recF c c.k fun e => l.getD e.toNat 0).val w') : Fc Try.prog F_spec_l01Turned #[c.val, a] w (.one .any) K := by
  have n0 := hI.1; have n1 := hI.2.1
  have hed := edges_bd (n := c.n) (by omega) n1
  refine walk_spec_l01Turned _ _ (box c.cells rfl fun b w1 m1 => c_alloc fun p w2 q2 hv => ?_)
  have q1 := m1.below
  have e1 := m1.here; have s1 := m1.size; have hs2 := q2.size
  have q12 := q1.trans (q2.mono q1.size)
  have h1 : BlkC w1 b c := m1.at_
  have h2 : BlkC w2 b c := below_at q2 h1 (at_lt h1)
  have hpne : p ≠ ptr b 0 := hv.ne' h1
  refine lp (fun e w' => 0 ≤ e ∧ e ≤ edgesOf c.n ∧ Below w.heap.size w w' ∧ CVar w.heap.size w' p ∧ BlkC w' b ⟨c.n, c.k, esT c (fun e => l.getD e.toNat 0) e.toNat⟩) (fun e _ => (edgesOf c.n - e).toNat)
    ⟨by omega, by omega, q12, hv.mono (by omega), by rw [show (0 : Int).toNat = 0 from rfl, esT_0 hc]; exact h2⟩ ?_
  rintro e w3 N ⟨e0, e1', q3, hv3, h3⟩ hN
  unfold B_spec_l01Turned_2
  have hlen := esT_len c (fun e => l.getD e.toNat 0) e.toNat
  have hrow : ColAt w3 (ptr b 0) ⟨c.n, c.k, esT c (fun e => l.getD e.toNat 0) e.toNat⟩ := blk_row h3
  have hbyte : ∀ m : Nat, m ≤ (edgesOf c.n).toNat → (⟨c.n, c.k, esT c (fun e => l.getD e.toNat 0) m⟩ : Col).Ok := fun m hm => ⟨esT_len c (fun e => l.getD e.toNat 0) m, esT_byte hc (f := fun e => l.getD e.toNat 0) (m := m) fun i hi => by
    have := is_e hI hc (e := i) (by omega)
    exact hf _ this.1 this.2, hc.n0, hc.n1, hc.k0, hc.k1⟩
  refine col_n (c := ⟨c.n, c.k, _⟩) hrow (col_n (c := ⟨c.n, c.k, _⟩) hrow ⟨by decide, ?_⟩)
  dsimp only
  rw [wedges (by omega) n1]
  refine ⟨fun hlt => ?_, fun hge => ?_⟩
  · have hlt := dec_t hlt
    have he := is_e hI hc (e := e.toNat) (by omega)
    have hfe := hf _ he.1 he.2
    refine col_e (c := ⟨c.n, c.k, _⟩) (hbyte e.toNat (by omega)) hrow e0 (by omega) ?_
    rw [esT_e c _ (by omega), if_neg (by omega)]
    refine atI (ha.keep q3) he.1 (by omega) (int_u8 hfe.1 hfe.2 (fldp f2 (put_e h3 hlen e0 (by omega) fun w4 m4 s4 h4 => ?_)))
    rw [wrap_small (by omega) (by omega)]
    have := esT_set c (fun e => l.getD e.toNat 0) (m := e.toNat) (by omega)
    rw [this] at h4
    refine hN _ _ ⟨by omega, by omega, q3.trans (m4.below q3.size (by simp; omega)), hv3.mod m4 hpne, by rw [show (e + 1).toNat = e.toNat + 1 from by omega]; exact h4⟩ (by omega)
  · have hge := dec_f hge
    have : e = edgesOf c.n := by omega
    subst this
    intro _
    have hend := esT_end hI (fun e => l.getD e.toNat 0) c.k
    rw [hend] at h3
    have hok := hbyte (edgesOf c.n).toNat (by omega)
    rw [hend] at hok
    exact col_all hok (blk_row h3) (c_ret hok hv3 q3.size fun w4 q4 => hK w4 (q3.trans q4))

end Go.Proofs.Ytkadckhealbdaaa

/- The reading of spec_l01Edge, and its contract. No condition. -/
namespace Go.Proofs.Ytkadckhealbdaaa
open Go Go.RowKit Eng Mem
set_option linter.unusedVariables false
set_option maxRecDepth 100000
def V_spec_l01Edge (i0 : Int) (j1 : Int) (w : World) (K : Int → World → Prop) : Prop :=
  (((decide (i0 > j1)) = true → ((2 : Int) ≠ 0 ∧ K (IntKind.i64.wrap ((IntKind.i64.wrap (Int.tdiv (IntKind.i64.wrap (i0 * (IntKind.i64.wrap (i0 - (1 : Int))))) (2 : Int))) + j1)) w)) ∧ ((decide (i0 > j1)) = false → ((2 : Int) ≠ 0 ∧ K (IntKind.i64.wrap ((IntKind.i64.wrap (Int.tdiv (IntKind.i64.wrap (j1 * (IntKind.i64.wrap (j1 - (1 : Int))))) (2 : Int))) + i0)) w)))

theorem eq_spec_l01Edge (i0 : Int) (j1 : Int) (w : World) (K : Int → World → Prop) :
    W Try.prog ty (fun _ _ _ _ => False) (bodyOf Try.f128) (fnPost Try.prog Try.f128.results.toList (.one (.int .i64)) K) (frame0 [(.int .i64 i0), (.int .i64 j1)] 22) w = V_spec_l01Edge i0 j1 w K := by
  kernel_rfl

theorem body_spec_l01Edge : Try.f128.body = some (bodyOf Try.f128) := by kernel_rfl
theorem name_spec_l01Edge : (Try.f128.name == "runtime.NumGoroutine") = false := by kernel_rfl

theorem walk_spec_l01Edge (i0 : Int) (j1 : Int) {w : World} {K : Int → World → Prop} (h : V_spec_l01Edge i0 j1 w K) : Fc Try.prog 128 #[(.int .i64 i0), (.int .i64 j1)] w (.one (.int .i64)) K :=
  fn_ok follows (sound_none _) Try.func128 name_spec_l01Edge body_spec_l01Edge Try.ntmps128 [(.int .i64 i0), (.int .i64 j1)] (Eq.mpr (eq_spec_l01Edge i0 j1 w K) h)

-- uses S5Made
theorem c_spec_l01Edge {i j : Int} {w : World} {K : Int → World → Prop} (h0 : 0 ≤ i) (h1 : i ≤ 17) (k0 : 0 ≤ j) (k1 : j ≤ 17) (hK : K (num i j) w) : Fc Try.prog F_spec_l01Edge #[.int .i64 i, .int .i64 j] w (.one (.int .i64)) K := by
  refine walk_spec_l01Edge _ _ ⟨fun h => ⟨by decide, ?_⟩, fun h => ⟨by decide, ?_⟩⟩
  · have h := dec_t h
    rw [wnum k0 k1 h0 h1]
    unfold num at hK
    rwa [if_neg (by omega)] at hK
  · have h := dec_f h
    rw [wnum h0 h1 k0 k1]
    unfold num at hK
    by_cases h' : i < j
    · rwa [if_pos h'] at hK
    · have : i = j := by omega
      subst this
      rwa [if_neg h'] at hK

end Go.Proofs.Ytkadckhealbdaaa

/- The reading of spec_l01At, and its contract. No condition. -/
namespace Go.Proofs.Ytkadckhealbdaaa
open Go Go.RowKit Eng Mem
set_option linter.unusedVariables false
set_option maxRecDepth 100000
def V_spec_l01At (x0 : Value) (i1 : Int) (j2 : Int) (w : World) (K : Int → World → Prop) : Prop :=
  (Pr Try.prog (Instr.box 25 x0) w (.one .any) fun (x3_2 : Value) w_1 => (Fc Try.prog 128 #[(.int .i64 i1), (.int .i64 j2)] w_1 (.one (.int .i64)) fun (x9_4 : Int) w_3 => (QAll Try.prog (Instr.fieldAt 25 x3_2 2) .any fun (x10_5 : Value) => (QAll Try.prog (Instr.indexAt 22 x10_5 (.int .i64 x9_4)) .any fun (x11_6 : Value) => (QSub Try.prog (Instr.loadAt 5 x11_6) w_3 (.int .u8) fun (x12_7 : Int) => (QAll Try.prog (convert 5 2 (.int .u8 x12_7)) (.int .i64) fun (x13_8 : Int) => K x13_8 w_3))))))

theorem eq_spec_l01At (x0 : Value) (i1 : Int) (j2 : Int) (w : World) (K : Int → World → Prop) :
    W Try.prog ty (fun _ _ _ _ => False) (bodyOf Try.f118) (fnPost Try.prog Try.f118.results.toList (.one (.int .i64)) K) (frame0 [x0, (.int .i64 i1), (.int .i64 j2)] 14) w = V_spec_l01At x0 i1 j2 w K := by
  kernel_rfl

theorem body_spec_l01At : Try.f118.body = some (bodyOf Try.f118) := by kernel_rfl
theorem name_spec_l01At : (Try.f118.name == "runtime.NumGoroutine") = false := by kernel_rfl

theorem walk_spec_l01At (x0 : Value) (i1 : Int) (j2 : Int) {w : World} {K : Int → World → Prop} (h : V_spec_l01At x0 i1 j2 w K) : Fc Try.prog 118 #[x0, (.int .i64 i1), (.int .i64 j2)] w (.one (.int .i64)) K :=
  fn_ok follows (sound_none _) Try.func118 name_spec_l01At body_spec_l01At Try.ntmps118 [x0, (.int .i64 i1), (.int .i64 j2)] (Eq.mpr (eq_spec_l01At x0 i1 j2 w K) h)

-- uses S5Made
theorem c_spec_l01At {c : Col} {i j : Int} {w : World} {K : Int → World → Prop} (hc : c.Ok) (h0 : 0 ≤ i) (h1 : i < 17) (k0 : 0 ≤ j) (k1 : j < 17) (hne : i ≠ j) (hK : ∀ w', Below w.heap.size w w' → K (c.e (num i j).toNat) w') :
    Fc Try.prog F_spec_l01At #[c.val, .int .i64 i, .int .i64 j] w (.one (.int .i64)) K := by
  have hn := num_lt h0 h1 k0 k1 (Int.le_refl _) hne
  rw [show edgesOf 17 = 136 from by decide] at hn
  have hbd := hc.e_bd (num i j).toNat
  exact walk_spec_l01At _ _ _ (col_box fun b w1 n1 hx => c_spec_l01Edge h0 (by omega) k0 (by omega) (col_e hc hx hn.1 hn.2 (u8_int hbd.1 hbd.2 (hK w1 n1.below))))

end Go.Proofs.Ytkadckhealbdaaa

/- The reading of spec_l01Own, and its contract. No condition. -/
namespace Go.Proofs.Ytkadckhealbdaaa
open Go Go.RowKit Eng Mem
set_option linter.unusedVariables false
set_option maxRecDepth 100000
def V_spec_l01Own (list0 : Value) (w : World) (K : Value → World → Prop) : Prop :=
  (Pr Try.prog (Instr.buildSlice 31 0 #[]) w (.one .any) fun (x3_2 : Value) w_1 => (Pr Try.prog (Builtin.append_ #[31, 31] 31 #[x3_2, list0]) w_1 (.one .any) fun (x5_4 : Value) w_3 => K (x5_4 : Value) w_3))

theorem eq_spec_l01Own (list0 : Value) (w : World) (K : Value → World → Prop) :
    W Try.prog ty (fun _ _ _ _ => False) (bodyOf Try.f90) (fnPost Try.prog Try.f90.results.toList (.one .any) K) (frame0 [list0] 6) w = V_spec_l01Own list0 w K := by
  kernel_rfl

theorem body_spec_l01Own : Try.f90.body = some (bodyOf Try.f90) := by kernel_rfl
theorem name_spec_l01Own : (Try.f90.name == "runtime.NumGoroutine") = false := by kernel_rfl

theorem walk_spec_l01Own (list0 : Value) {w : World} {K : Value → World → Prop} (h : V_spec_l01Own list0 w K) : Fc Try.prog 90 #[list0] w (.one .any) K :=
  fn_ok follows (sound_none _) Try.func90 name_spec_l01Own body_spec_l01Own Try.ntmps90 [list0] (Eq.mpr (eq_spec_l01Own list0 w K) h)

-- uses S2Sl
theorem c_spec_l01Own {a : Value} {l : List Int} {w : World} {K : Value → World → Prop} (h : SlI w a l) (hl : l.length ≤ 1099511627776) (hK : ∀ w' v b, w.heap.size ≤ b → Below w.heap.size w w' → OwnI w' b v l → K v w') :
    Fc Try.prog F_spec_l01Own #[a] w (.one .any) K := by
  refine walk_spec_l01Own _ (nilI fun b v w1 hb hbel ho => appsI ho (h.keep hbel) (by simpa using hl) fun v' w' b' o m hb' => ?_)
  have hs := hbel.size
  rw [List.nil_append] at o
  exact hK w' v' b' (by omega) (hbel.trans (m.below (by omega) (by simp; omega))) o

end Go.Proofs.Ytkadckhealbdaaa

/- The reading of spec_l06Go, and its contract. No condition. -/
namespace Go.Proofs.Ytkadckhealbdaaa
open Go Go.RowKit Eng Mem
set_option linter.unusedVariables false
set_option maxRecDepth 100000
def B_spec_l06Go_11 (s0 : Value) (list1 : Value) (used2 : Int) (p6 : Int) (image7 : Int) (fits8 : Bool) (q9 : Int) (N : (Value × Value × Int × Int × Int) → (Bool × Int) → World → Prop) (D2 : (Value × Value × Int × Int × Int × Bool × Unit) → World → Prop) (w : World) : Prop :=
  (((decide (q9 < p6)) = true → ((fits8 = true → (∀ w_40, Drew w w_40 → (NilOk s0 ∧ (QAll Try.prog (Instr.fieldAt 73 s0 0) .any fun (x89_41 : Value) => (QSub Try.prog (Instr.loadAt 25 x89_41) w_40 .any fun (x90_42 : Value) => (NilOk s0 ∧ (QAll Try.prog (Instr.fieldAt 73 s0 1) .any fun (x96_43 : Value) => (QSub Try.prog (Instr.loadAt 25 x96_43) w_40 .any fun (x97_44 : Value) => (QAll Try.prog (Instr.indexAt 31 list1 (.int .i64 q9)) .any fun (x100_45 : Value) => (QSub Try.prog (Instr.loadAt 2 x100_45) w_40 (.int .i64) fun (x101_46 : Int) => (Fc Try.prog 118 #[x90_42, (.int .i64 q9), (.int .i64 p6)] w_40 (.one (.int .i64)) fun (x93_48 : Int) w_47 => (Keeps w_40 w_47 ((Fc Try.prog 118 #[x97_44, (.int .i64 x101_46), (.int .i64 image7)] w_47 (.one (.int .i64)) fun (x103_50 : Int) w_49 => (Keeps w_40 w_49 (N ((s0 : Value), (list1 : Value), used2, p6, image7) ((x93_48 == x103_50), (IntKind.i64.wrap (q9 + (1 : Int)))) w_49)))))))))))))))) ∧ (fits8 = false → D2 ((s0 : Value), (list1 : Value), used2, p6, image7, fits8, ()) w))) ∧ ((decide (q9 < p6)) = false → D2 ((s0 : Value), (list1 : Value), used2, p6, image7, fits8, ()) w))

abbrev L_spec_l06Go_11_e2 : List Slot := [.k .any, .k .any, .k (.int .i64), .junk, .junk, .junk, .k (.int .i64), .k (.int .i64), .k .bool, .junk, .junk, .junk, .junk, .junk, .junk, .junk, .junk, .junk, .junk, .junk, .junk, .junk, .junk, .junk, .junk, .junk, .junk, .junk, .junk, .junk, .junk, .junk, .junk, .junk, .junk, .junk, .junk, .junk, .junk, .junk, .junk, .junk, .junk, .junk, .junk, .junk, .junk, .junk, .junk, .junk, .junk, .junk, .junk, .junk, .junk, .junk, .junk, .junk, .junk, .junk, .junk, .junk, .junk, .junk, .junk, .junk, .junk, .junk, .junk, .junk, .junk, .junk, .junk, .junk, .junk, .junk, .junk, .junk, .junk, .junk, .junk, .junk, .junk, .junk, .junk, .junk, .junk, .junk, .junk, .junk, .junk, .junk, .junk, .junk, .junk, .junk, .junk, .junk, .junk, .junk, .junk, .junk, .junk, .junk, .junk, .junk, .junk, .junk, .junk, .junk, .junk, .junk, .junk, .junk, .junk, .junk, .junk, .junk]

abbrev L_spec_l06Go_11_sp : List Slot := [.k .any, .k .any, .k (.int .i64), .junk, .junk, .junk, .k (.int .i64), .k (.int .i64), .k .bool, .k (.int .i64), .junk, .junk, .junk, .junk, .junk, .junk, .junk, .junk, .junk, .junk, .junk, .junk, .junk, .junk, .junk, .junk, .junk, .junk, .junk, .junk, .junk, .junk, .junk, .junk, .junk, .junk, .junk, .junk, .junk, .junk, .junk, .junk, .junk, .junk, .junk, .junk, .junk, .junk, .junk, .junk, .junk, .junk, .junk, .junk, .junk, .junk, .junk, .junk, .junk, .junk, .junk, .junk, .junk, .junk, .junk, .junk, .junk, .junk, .junk, .junk, .junk, .junk, .junk, .junk, .junk, .junk, .junk, .junk, .junk, .junk, .junk, .junk, .junk, .junk, .junk, .junk, .junk, .junk, .junk, .junk, .junk, .junk, .junk, .junk, .junk, .junk, .junk, .junk, .junk, .junk, .junk, .junk, .junk, .junk, .junk, .junk, .junk, .junk, .junk, .junk, .junk, .junk, .junk, .junk, .junk, .junk, .junk, .junk]
abbrev L_spec_l06Go_11_ex : List (Nat × List Slot) := [(2, L_spec_l06Go_11_e2)]
abbrev L_spec_l06Go_11_rt : List Slot := [.junk, .junk, .junk, .junk, .junk, .junk, .junk, .junk, .junk, .junk, .junk, .junk, .junk, .junk, .junk, .junk, .junk, .junk, .junk, .junk, .junk, .junk, .junk, .junk, .junk, .junk, .junk, .junk, .junk, .junk, .junk, .junk, .junk, .junk, .junk, .junk, .junk, .junk, .junk, .junk, .junk, .junk, .junk, .junk, .junk, .junk, .junk, .junk, .junk, .junk, .junk, .junk, .junk, .junk, .junk, .junk, .junk, .junk, .junk, .junk, .junk, .junk, .junk, .junk, .junk, .junk, .junk, .junk, .junk, .junk, .junk, .junk, .junk, .junk, .junk, .junk, .junk, .junk, .junk, .junk, .junk, .junk, .junk, .junk, .junk, .junk, .junk, .junk, .junk, .junk, .junk, .junk, .junk, .junk, .junk, .junk, .junk, .junk, .junk, .junk, .junk, .junk, .junk, .junk, .junk, .junk, .junk, .junk, .junk, .junk, .junk, .junk, .junk, .junk, .junk, .junk, .junk, .junk]

def L_spec_l06Go_11_b (Φ : Post) (u : (Value × Value × Int × Int × Int)) (N : (Value × Value × Int × Int × Int) → (Bool × Int) → World → Prop) (s : (Bool × Int)) (w : World) : Prop :=
  B_spec_l06Go_11 u.1 u.2.1 u.2.2.1 u.2.2.2.1 u.2.2.2.2 s.1 s.2 N (fun v w => ∀ j : Nat → Value, Φ (.exit 2) (mkT j 0 L_spec_l06Go_11_e2 v) w) w

theorem L_spec_l06Go_11_eq (j : Nat → Value) (u : (Value × Value × Int × Int × Int)) (s : (Bool × Int)) (N : (Value × Value × Int × Int × Int) → (Bool × Int) → World → Prop) (D2 : (Value × Value × Int × Int × Int × Bool × Unit) → World → Prop) (R : (Unit) → World → Prop) (w : World) :
    W Try.prog ty (fun _ _ _ _ => False) (loopAt Try.f97 11) (loopPost L_spec_l06Go_11_sp [(2, (⟨L_spec_l06Go_11_e2, D2⟩ : Door))] ⟨L_spec_l06Go_11_rt, R⟩ (fun v w => N ((fun v => (v.1, v.2.1, v.2.2.1, v.2.2.2.1, v.2.2.2.2.1)) v) ((fun v => (v.2.2.2.2.2.1, v.2.2.2.2.2.2.1)) v) w)) (mkT j 0 L_spec_l06Go_11_sp ((fun u s => (u.1, u.2.1, u.2.2.1, u.2.2.2.1, u.2.2.2.2, s.1, s.2, ())) u s)) w =
    B_spec_l06Go_11 u.1 u.2.1 u.2.2.1 u.2.2.2.1 u.2.2.2.2 s.1 s.2 N D2 w := by
  kernel_rfl

def O_spec_l06Go_1 : Code → Post → List SV → World → Prop :=
  orc 11 (loopAt Try.f97 11) L_spec_l06Go_11_sp (fun Φ fr w => LOOP (U := (Value × Value × Int × Int × Int)) (S := (Bool × Int)) ((fun v => (v.1, v.2.1, v.2.2.1, v.2.2.2.1, v.2.2.2.2.1)) (extT L_spec_l06Go_11_sp fr)) (L_spec_l06Go_11_b Φ ((fun v => (v.1, v.2.1, v.2.2.1, v.2.2.2.1, v.2.2.2.2.1)) (extT L_spec_l06Go_11_sp fr))) ((fun v => (v.2.2.2.2.2.1, v.2.2.2.2.2.2.1)) (extT L_spec_l06Go_11_sp fr)) w) (fun _ _ _ _ => False)

theorem O_spec_l06Go_1_ok : Sound Try.prog O_spec_l06Go_1 :=
  orc_ok (sound_none _) fun Φ fr w hs h => loop_ok (ty := ty) follows (sound_none _) L_spec_l06Go_11_sp (fun v => (v.1, v.2.1, v.2.2.1, v.2.2.2.1, v.2.2.2.2.1)) (fun v => (v.2.2.2.2.2.1, v.2.2.2.2.2.2.1)) (fun u s => (u.1, u.2.1, u.2.2.1, u.2.2.2.1, u.2.2.2.2, s.1, s.2, ())) (fun _ => rfl) L_spec_l06Go_11_ex L_spec_l06Go_11_rt (body := L_spec_l06Go_11_b Φ) (fun j u s w N hb => by
    have e := L_spec_l06Go_11_eq j u s N (doorOf Φ (.exit 2) L_spec_l06Go_11_e2).D (doorOf Φ .ret L_spec_l06Go_11_rt).D w
    exact Eq.mpr e hb) hs h

def B_spec_l06Go_6 (s0 : Value) (list1 : Value) (used2 : Int) (p6 : Int) (image7 : Int) (N : (Value × Value × Int × Int) → Int → World → Prop) (D0 : (Unit) → World → Prop) (w : World) : Prop :=
  (∀ w_22, Drew w w_22 → (NilOk s0 ∧ (QAll Try.prog (Instr.fieldAt 73 s0 0) .any fun (x39_23 : Value) => (QAll Try.prog (Instr.fieldAt 25 x39_23 0) .any fun (x40_24 : Value) => (QSub Try.prog (Instr.loadAt 2 x40_24) w_22 (.int .i64) fun (x41_25 : Int) => (((decide (image7 < x41_25)) = true → (NilOk s0 ∧ (QAll Try.prog (Instr.fieldAt 73 s0 5) .any fun (x46_26 : Value) => (QSub Try.prog (Instr.loadAt 2 x46_26) w_22 (.int .i64) fun (x47_27 : Int) => (NilOk s0 ∧ (QAll Try.prog (Instr.fieldAt 73 s0 4) .any fun (x50_28 : Value) => (QSub Try.prog (Instr.loadAt 2 x50_28) w_22 (.int .i64) fun (x51_29 : Int) => (((decide (x47_27 < x51_29)) = true → (∀ w_30, Drew w_22 w_30 → (QAll Try.prog (convert 2 102 (.int .i64 image7)) (.int .u64) fun (x58_31 : Int) => (0 ≤ x58_31 ∧ ((((IntKind.i64.wrap ((BitVec.toNat (BitVec.ofInt (IntKind.bits .i64) (Int.fdiv used2 (2 ^ min (Int.toNat x58_31) 64)) &&& BitVec.ofInt (IntKind.bits .i64) (1 : Int)) : Nat))) == (1 : Int)) = true → N ((s0 : Value), (list1 : Value), used2, p6) (IntKind.i64.wrap (image7 + (1 : Int))) w_30) ∧ (((IntKind.i64.wrap ((BitVec.toNat (BitVec.ofInt (IntKind.bits .i64) (Int.fdiv used2 (2 ^ min (Int.toNat x58_31) 64)) &&& BitVec.ofInt (IntKind.bits .i64) (1 : Int)) : Nat))) == (1 : Int)) = false → (NilOk s0 ∧ (QAll Try.prog (Instr.fieldAt 73 s0 2) .any fun (x65_32 : Value) => (QSub Try.prog (Instr.loadAt 31 x65_32) w_30 .any fun (x66_33 : Value) => (QAll Try.prog (Instr.indexAt 31 x66_33 (.int .i64 p6)) .any fun (x68_34 : Value) => (QSub Try.prog (Instr.loadAt 2 x68_34) w_30 (.int .i64) fun (x69_35 : Int) => (NilOk s0 ∧ (QAll Try.prog (Instr.fieldAt 73 s0 3) .any fun (x72_36 : Value) => (QSub Try.prog (Instr.loadAt 31 x72_36) w_30 .any fun (x73_37 : Value) => (QAll Try.prog (Instr.indexAt 31 x73_37 (.int .i64 image7)) .any fun (x75_38 : Value) => (QSub Try.prog (Instr.loadAt 2 x75_38) w_30 (.int .i64) fun (x76_39 : Int) => (((x69_35 != x76_39) = true → N ((s0 : Value), (list1 : Value), used2, p6) (IntKind.i64.wrap (image7 + (1 : Int))) w_30) ∧ ((x69_35 != x76_39) = false → (At (loopAt Try.f97 11) (loopAt Try.f97 11) (LOOP (U := (Value × Value × Int × Int × Int)) (S := (Bool × Int)) ((s0 : Value), (list1 : Value), used2, p6, image7) (fun N_63 s_64 w_65 => B_spec_l06Go_11 (s0 : Value) (list1 : Value) used2 p6 image7 s_64.1 s_64.2 N_63 (fun (v_51 : (Value × Value × Int × Int × Int × Bool × Unit)) w_52 => ∀ _j_53 : Nat → Value, ((v_51.2.2.2.2.2.1 = true → (Fc Try.prog 90 #[v_51.2.1] w_52 (.one .any) fun (x108_55 : Value) w_54 => (Pr Try.prog (Instr.buildSlice 31 1 #[(0, (.int .i64 v_51.2.2.2.2.1))]) w_54 (.one .any) fun (x110_57 : Value) w_56 => (Pr Try.prog (Builtin.append_ #[31, 31] 31 #[x108_55, x110_57]) w_56 (.one .any) fun (x111_59 : Value) w_58 => (QAll Try.prog (convert 2 102 (.int .i64 v_51.2.2.2.2.1)) (.int .u64) fun (x114_60 : Int) => (0 ≤ x114_60 ∧ (Fc Try.prog 97 #[v_51.1, x111_59, (.int .i64 (IntKind.i64.wrap ((BitVec.toNat (BitVec.ofInt (IntKind.bits .i64) v_51.2.2.1 ||| BitVec.ofInt (IntKind.bits .i64) (IntKind.i64.wrap ((1 : Int) * 2 ^ min (Int.toNat x114_60) 64))) : Nat))))] w_58 .unit fun (x117_62 : Unit) w_61 => N ((v_51.1 : Value), (v_51.2.1 : Value), v_51.2.2.1, v_51.2.2.2.1) (IntKind.i64.wrap (v_51.2.2.2.2.1 + (1 : Int))) w_61))))))) ∧ (v_51.2.2.2.2.2.1 = false → N ((v_51.1 : Value), (v_51.2.1 : Value), v_51.2.2.1, v_51.2.2.2.1) (IntKind.i64.wrap (v_51.2.2.2.2.1 + (1 : Int))) w_52))) w_65) (true, (0 : Int)) w_30)))))))))))))))))))) ∧ ((decide (x47_27 < x51_29)) = false → D0 () w_22))))))))) ∧ ((decide (image7 < x41_25)) = false → D0 () w_22)))))))

abbrev L_spec_l06Go_6_e0 : List Slot := [.junk, .junk, .junk, .junk, .junk, .junk, .junk, .junk, .junk, .junk, .junk, .junk, .junk, .junk, .junk, .junk, .junk, .junk, .junk, .junk, .junk, .junk, .junk, .junk, .junk, .junk, .junk, .junk, .junk, .junk, .junk, .junk, .junk, .junk, .junk, .junk, .junk, .junk, .junk, .junk, .junk, .junk, .junk, .junk, .junk, .junk, .junk, .junk, .junk, .junk, .junk, .junk, .junk, .junk, .junk, .junk, .junk, .junk, .junk, .junk, .junk, .junk, .junk, .junk, .junk, .junk, .junk, .junk, .junk, .junk, .junk, .junk, .junk, .junk, .junk, .junk, .junk, .junk, .junk, .junk, .junk, .junk, .junk, .junk, .junk, .junk, .junk, .junk, .junk, .junk, .junk, .junk, .junk, .junk, .junk, .junk, .junk, .junk, .junk, .junk, .junk, .junk, .junk, .junk, .junk, .junk, .junk, .junk, .junk, .junk, .junk, .junk, .junk, .junk, .junk, .junk, .junk, .junk]

abbrev L_spec_l06Go_6_sp : List Slot := [.k .any, .k .any, .k (.int .i64), .junk, .junk, .junk, .k (.int .i64), .k (.int .i64), .junk, .junk, .junk, .junk, .junk, .junk, .junk, .junk, .junk, .junk, .junk, .junk, .junk, .junk, .junk, .junk, .junk, .junk, .junk, .junk, .junk, .junk, .junk, .junk, .junk, .junk, .junk, .junk, .junk, .junk, .junk, .junk, .junk, .junk, .junk, .junk, .junk, .junk, .junk, .junk, .junk, .junk, .junk, .junk, .junk, .junk, .junk, .junk, .junk, .junk, .junk, .junk, .junk, .junk, .junk, .junk, .junk, .junk, .junk, .junk, .junk, .junk, .junk, .junk, .junk, .junk, .junk, .junk, .junk, .junk, .junk, .junk, .junk, .junk, .junk, .junk, .junk, .junk, .junk, .junk, .junk, .junk, .junk, .junk, .junk, .junk, .junk, .junk, .junk, .junk, .junk, .junk, .junk, .junk, .junk, .junk, .junk, .junk, .junk, .junk, .junk, .junk, .junk, .junk, .junk, .junk, .junk, .junk, .junk, .junk]
abbrev L_spec_l06Go_6_ex : List (Nat × List Slot) := [(0, L_spec_l06Go_6_e0)]
abbrev L_spec_l06Go_6_rt : List Slot := [.junk, .junk, .junk, .junk, .junk, .junk, .junk, .junk, .junk, .junk, .junk, .junk, .junk, .junk, .junk, .junk, .junk, .junk, .junk, .junk, .junk, .junk, .junk, .junk, .junk, .junk, .junk, .junk, .junk, .junk, .junk, .junk, .junk, .junk, .junk, .junk, .junk, .junk, .junk, .junk, .junk, .junk, .junk, .junk, .junk, .junk, .junk, .junk, .junk, .junk, .junk, .junk, .junk, .junk, .junk, .junk, .junk, .junk, .junk, .junk, .junk, .junk, .junk, .junk, .junk, .junk, .junk, .junk, .junk, .junk, .junk, .junk, .junk, .junk, .junk, .junk, .junk, .junk, .junk, .junk, .junk, .junk, .junk, .junk, .junk, .junk, .junk, .junk, .junk, .junk, .junk, .junk, .junk, .junk, .junk, .junk, .junk, .junk, .junk, .junk, .junk, .junk, .junk, .junk, .junk, .junk, .junk, .junk, .junk, .junk, .junk, .junk, .junk, .junk, .junk, .junk, .junk, .junk]

def L_spec_l06Go_6_b (Φ : Post) (u : (Value × Value × Int × Int)) (N : (Value × Value × Int × Int) → Int → World → Prop) (s : Int) (w : World) : Prop :=
  B_spec_l06Go_6 u.1 u.2.1 u.2.2.1 u.2.2.2 s N (fun v w => ∀ j : Nat → Value, Φ (.exit 0) (mkT j 0 L_spec_l06Go_6_e0 v) w) w

theorem L_spec_l06Go_6_eq (j : Nat → Value) (u : (Value × Value × Int × Int)) (s : Int) (N : (Value × Value × Int × Int) → Int → World → Prop) (D0 : (Unit) → World → Prop) (R : (Unit) → World → Prop) (w : World) :
    W Try.prog ty O_spec_l06Go_1 (loopAt Try.f97 6) (loopPost L_spec_l06Go_6_sp [(0, (⟨L_spec_l06Go_6_e0, D0⟩ : Door))] ⟨L_spec_l06Go_6_rt, R⟩ (fun v w => N ((fun v => (v.1, v.2.1, v.2.2.1, v.2.2.2.1)) v) ((fun v => v.2.2.2.2.1) v) w)) (mkT j 0 L_spec_l06Go_6_sp ((fun u s => (u.1, u.2.1, u.2.2.1, u.2.2.2, s, ())) u s)) w =
    B_spec_l06Go_6 u.1 u.2.1 u.2.2.1 u.2.2.2 s N D0 w := by
  kernel_rfl

def O_spec_l06Go_2 : Code → Post → List SV → World → Prop :=
  orc 6 (loopAt Try.f97 6) L_spec_l06Go_6_sp (fun Φ fr w => LOOP (U := (Value × Value × Int × Int)) (S := Int) ((fun v => (v.1, v.2.1, v.2.2.1, v.2.2.2.1)) (extT L_spec_l06Go_6_sp fr)) (L_spec_l06Go_6_b Φ ((fun v => (v.1, v.2.1, v.2.2.1, v.2.2.2.1)) (extT L_spec_l06Go_6_sp fr))) ((fun v => v.2.2.2.2.1) (extT L_spec_l06Go_6_sp fr)) w) O_spec_l06Go_1

theorem O_spec_l06Go_2_ok : Sound Try.prog O_spec_l06Go_2 :=
  orc_ok O_spec_l06Go_1_ok fun Φ fr w hs h => loop_ok (ty := ty) follows O_spec_l06Go_1_ok L_spec_l06Go_6_sp (fun v => (v.1, v.2.1, v.2.2.1, v.2.2.2.1)) (fun v => v.2.2.2.2.1) (fun u s => (u.1, u.2.1, u.2.2.1, u.2.2.2, s, ())) (fun _ => rfl) L_spec_l06Go_6_ex L_spec_l06Go_6_rt (body := L_spec_l06Go_6_b Φ) (fun j u s w N hb => by
    have e := L_spec_l06Go_6_eq j u s N (doorOf Φ (.exit 0) L_spec_l06Go_6_e0).D (doorOf Φ .ret L_spec_l06Go_6_rt).D w
    exact Eq.mpr e hb) hs h

def V_spec_l06Go (s0 : Value) (list1 : Value) (used2 : Int) (w : World) (K : Unit → World → Prop) : Prop :=
  (QAll Try.prog (Builtin.len_ #[31] 3 #[list1]) (.int .i64) fun (x11_1 : Int) => (NilOk s0 ∧ (QAll Try.prog (Instr.fieldAt 73 s0 0) .any fun (x15_2 : Value) => (QAll Try.prog (Instr.fieldAt 25 x15_2 0) .any fun (x16_3 : Value) => (QSub Try.prog (Instr.loadAt 2 x16_3) w (.int .i64) fun (x17_4 : Int) => (((x11_1 == x17_4) = true → (NilOk s0 ∧ (QAll Try.prog (Instr.fieldAt 73 s0 5) .any fun (x21_5 : Value) => (QSub Try.prog (Instr.loadAt 2 x21_5) w (.int .i64) fun (x22_6 : Int) => (((x22_6 == (0 : Int)) = true → (Fc Try.prog 90 #[list1] w (.one .any) fun (x26_8 : Value) w_7 => (NilOk s0 ∧ (QAll Try.prog (Instr.fieldAt 73 s0 6) .any fun (x28_9 : Value) => (PrU Try.prog (Instr.storeAt 31 x28_9 x26_8) w_7 fun w_10 => (NilOk s0 ∧ (QAll Try.prog (Instr.fieldAt 73 s0 5) .any fun (x31_12 : Value) => (QSub Try.prog (Instr.loadAt 2 x31_12) w_10 (.int .i64) fun (x32_13 : Int) => (NilOk s0 ∧ (QAll Try.prog (Instr.fieldAt 73 s0 5) .any fun (x35_14 : Value) => (PrU Try.prog (Instr.storeAt 2 x35_14 (.int .i64 (IntKind.i64.wrap (x32_13 + (1 : Int))))) w_10 fun w_15 => K () w_15))))))))))) ∧ ((x22_6 == (0 : Int)) = false → (NilOk s0 ∧ (QAll Try.prog (Instr.fieldAt 73 s0 5) .any fun (x31_17 : Value) => (QSub Try.prog (Instr.loadAt 2 x31_17) w (.int .i64) fun (x32_18 : Int) => (NilOk s0 ∧ (QAll Try.prog (Instr.fieldAt 73 s0 5) .any fun (x35_19 : Value) => (PrU Try.prog (Instr.storeAt 2 x35_19 (.int .i64 (IntKind.i64.wrap (x32_18 + (1 : Int))))) w fun w_20 => K () w_20)))))))))))) ∧ ((x11_1 == x17_4) = false → (At (loopAt Try.f97 6) (loopAt Try.f97 6) (LOOP (U := (Value × Value × Int × Int)) (S := Int) ((s0 : Value), (list1 : Value), used2, x11_1) (fun N_69 s_70 w_71 => B_spec_l06Go_6 (s0 : Value) (list1 : Value) used2 x11_1 s_70 N_69 (fun (v_66 : (Unit)) w_67 => ∀ _j_68 : Nat → Value, K () w_67) w_71) (0 : Int) w)))))))))

theorem eq_spec_l06Go (s0 : Value) (list1 : Value) (used2 : Int) (w : World) (K : Unit → World → Prop) :
    W Try.prog ty O_spec_l06Go_2 (bodyOf Try.f97) (fnPost Try.prog Try.f97.results.toList .unit K) (frame0 [s0, list1, (.int .i64 used2)] 118) w = V_spec_l06Go s0 list1 used2 w K := by
  kernel_rfl

theorem body_spec_l06Go : Try.f97.body = some (bodyOf Try.f97) := by kernel_rfl
theorem name_spec_l06Go : (Try.f97.name == "runtime.NumGoroutine") = false := by kernel_rfl

theorem walk_spec_l06Go (s0 : Value) (list1 : Value) (used2 : Int) {w : World} {K : Unit → World → Prop} (h : V_spec_l06Go s0 list1 used2 w K) : Fc Try.prog 97 #[s0, list1, (.int .i64 used2)] w .unit K :=
  fn_ok follows O_spec_l06Go_2_ok Try.func97 name_spec_l06Go body_spec_l06Go Try.ntmps97 [s0, list1, (.int .i64 used2)] (Eq.mpr (eq_spec_l06Go s0 list1 used2 w K) h)

-- uses S9IsoS
theorem c_spec_l06Go {b : Nat} {x y : Col} {one two first : Value} (B : Nat) (hx : x.Ok) (hy : y.Ok) (Ix : x.Is) (Iy : y.Is) (hxy : x.n = y.n) (hk : x.k = y.k) :
    ∀ (fuel : Nat) (p : List Int) (v : Value) (u : Nat) (w : World) (K : Unit → World → Prop), p.length + fuel = x.n.toNat → B ≤ w.heap.size → SrAt w b x y one two 1 0 first → SlI w one (typesL x x.n.toNat) → SlI w two (typesL y y.n.toNat) → SlI w v p → (∀ e ∈ p, 0 ≤ e ∧ e < x.n) → u < 2 ^ 17 → (∀ j, u.testBit j = decide ((j : Int) ∈ p)) →
      (isoF x y fuel p = none → ∀ w', Below w.heap.size w w' → K () w') → (∀ l, isoF x y fuel p = some l → ∀ w' u c, Mod [b] w w' → B ≤ c → OwnI w' c u l → SrAt w' b x y one two 1 1 u → K () w') →
      Fc Try.prog F_spec_l06Go #[ptr b 0, v, .int .i64 (u : Int)] w .unit K
  | fuel, p, v, u, w, K, hlen, hB, hsr, h1, h2, hp, hpe, hu, hbit, hn, hs => by
    have n0 := Ix.1; have n1 := Ix.2.1
    have nn : NilOk (ptr b 0) := .inl ⟨_, rfl⟩
    have hl1 := typesL_len x x.n.toNat
    have hl2 := typesL_len y y.n.toNat
    refine walk_spec_l06Go _ _ _ (lenI hp ⟨nn, fldp sr0 (col_n hsr.x ⟨fun he => ?_, fun hne => ?_⟩)⟩)
    · have he := eq_t he
      have hf : fuel = 0 := by omega
      subst hf
      refine ⟨nn, fldp sr5 (ld (k := .int .i64) yI (hsr.tail hx hy 3 rfl) ⟨fun _ => ?_, fun h => absurd rfl (eq_f h)⟩)⟩
      refine c_spec_l01Own hp (by omega) fun w1 o c hc q1 ho => ⟨nn, fldp sr6 ?_⟩
      have hs1 := hsr.keep q1
      refine st y1SI hs1.blk (by rw [srV_len hx hy]; omega) (own_one_I ho) fun w2 m2 s2 h2' => ?_
      have hs2 : SrAt w2 b x y one two 1 0 o := SrAt.setf hx hy h2'
      refine ⟨nn, fldp sr5 (ld (k := .int .i64) yI (hs2.tail hx hy 3 rfl) ⟨nn, fldp sr5 ?_⟩)⟩
      refine st yI hs2.blk (by rw [srV_len hx hy]; omega) rfl fun w3 m3 s3 h3' => ?_
      rw [wrap_small (by omega) (by omega)] at h3'
      have hs3 : SrAt w3 b x y one two 1 1 o := SrAt.setc hx hy h3'
      have hlb := at_lt hsr.blk
      exact hs p rfl w3 o c (((mod_of_below q1 _).trans m2).trans m3) (by omega) ((ho.mod m2 (by simp; omega)).mod m3 (by simp; omega)) hs3
    have hne := eq_f hne
    match fuel, hlen, hn, hs with
    | 0, hlen, _, _ => omega
    | fuel + 1, hlen, hn, hs =>
    have hkn : p.length < x.n.toNat := by omega
    rw [isoF_succ] at hn hs
    refine lp (fun s w' => ∃ j : Nat, s = j ∧ j ≤ x.n.toNat ∧ ((Below w.heap.size w w' ∧ isoR x y fuel p j = isoR x y fuel p 0) ∨ ∃ l o c, isoR x y fuel p 0 = some l ∧ Mod [b] w w' ∧ B ≤ c ∧ OwnI w' c o l ∧ SrAt w' b x y one two 1 1 o)) (fun s _ => (17 - s).toNat) ⟨0, rfl, by omega, .inl ⟨Below.refl _ _, rfl⟩⟩ ?_
    rintro t w2 N ⟨j, hjj, hjn, hst⟩ hN
    subst hjj
    unfold B_spec_l06Go_6
    intro w3 hd3
    rcases hst with ⟨q2, hR⟩ | ⟨l, o, c, hsome, m2, hc, ho, hsr2⟩
    case inr =>
      have b23 := hd3.below w2.heap.size
      have hsr3 := hsr2.keep b23
      have fin : ∀ w', Below w2.heap.size w2 w' → K () w' := fun w' q => hs l hsome w' o c (m2.trans (mod_of_below q _)) hc (ho.keep q) (hsr2.keep q)
      refine ⟨nn, fldp sr0 (col_n hsr3.x ⟨fun _ => ⟨nn, fldp sr5 (ld (k := .int .i64) yI (hsr3.tail hx hy 3 rfl) ⟨nn, fldp sr4 (ld (k := .int .i64) yI (hsr3.tail hx hy 2 rfl) ⟨fun h => absurd (dec_t h) (by omega), fun _ _ => fin w3 b23⟩)⟩)⟩, fun _ _ => fin w3 b23⟩)⟩
    have q3 := q2.trans (hd3.below w.heap.size)
    have hsr3 := hsr.keep q3
    refine ⟨nn, fldp sr0 (col_n hsr3.x ⟨fun hlt => ?_, fun hge => ?_⟩)⟩
    · have hlt := dec_t hlt
      refine ⟨nn, fldp sr5 (ld (k := .int .i64) yI (hsr3.tail hx hy 3 rfl) ⟨nn, fldp sr4 (ld (k := .int .i64) yI (hsr3.tail hx hy 2 rfl) ⟨fun _ => ?_, fun h => absurd (by omega) (dec_f h)⟩)⟩)⟩
      intro w4 hd4
      have q4 := q3.trans (hd4.below w.heap.size)
      have hsr4 := hsr.keep q4
      have next : ∀ w', Below w.heap.size w w' → isoR x y fuel p (j + 1) = isoR x y fuel p 0 → N (ptr b 0, v, (u : Int), (p.length : Int)) (IntKind.i64.wrap ((j : Int) + 1)) w' := fun w' q h => by
        rw [wrap_small (by omega) (by omega)]
        exact hN _ _ ⟨j + 1, by omega, by omega, .inl ⟨q, h⟩⟩ (by omega)
      refine int_u64 (by omega) (by omega) ⟨by omega, ?_⟩
      rw [wshr (by omega) (by omega), bit_iff, hbit]
      refine ⟨fun hin => ?_, fun hout => ?_⟩
      · have hin := dec_t hin
        exact next w4 q4 (by rw [← hR]; exact (isoR_skip (by omega) (fun h => by rw [fits_out hin] at h; cases h.2)).symm)
      have hout := dec_f hout
      refine ⟨nn, fldp sr2 (ld (k := .any) y1SI (hsr4.tail hx hy 0 rfl) (atI (h1.keep q4) (by omega) (by rw [hl1]; omega) ⟨nn, fldp sr3 (ld (k := .any) y1SI (hsr4.tail hx hy 1 rfl) (atI (h2.keep q4) (by omega) (by rw [hl2]; omega) ?_))⟩))⟩
      rw [Int.toNat_natCast, Int.toNat_natCast, typesL_get x hkn, typesL_get y (by omega)]
      have hsame : sameD x y p.length j = decide (typeN x p.length x.k.toNat = typeN y j y.k.toNat) := by
        unfold sameD
        rw [decide_eq_decide, ← hk]
        exact (typeN_eq n1 (by omega) _ _ _).symm
      refine ⟨fun hne2 => ?_, fun heq => ?_⟩
      · have hne2 := ne_t hne2
        exact next w4 q4 (by rw [← hR]; exact (isoR_skip (by omega) (fun h => by rw [hsame] at h; exact hne2 (dec_t h.1))).symm)
      have heq := ne_f heq
      have hsm : sameD x y p.length j = true := by rw [hsame]; exact decide_eq_true heq
      refine lp (fun s w' => Below w4.heap.size w4 w' ∧ ∃ m : Nat, s.2 = m ∧ m ≤ p.length ∧ (s.1 = true → ∀ a : Nat, a < m → colAt x a p.length = colAt y (p.getD a 0) j) ∧ (s.1 = false → fitsD x y p j = false)) (fun s _ => (17 - s.2).toNat) ⟨Below.refl _ _, 0, rfl, by omega, fun _ a h => absurd h (by omega), fun h => absurd h (by simp)⟩ ?_
      rintro ⟨fits, t⟩ w5 N' ⟨q5, m, hm, hmp, hall, hbad⟩ hN'
      simp only at hm hall hbad
      subst hm
      unfold B_spec_l06Go_11
      dsimp only
      have q45 := q4.trans (q5.mono q4.size)
      have hsr5 := hsr.keep q45
      have bad : fits = false → N (ptr b 0, v, (u : Int), (p.length : Int)) (IntKind.i64.wrap ((j : Int) + 1)) w5 := fun h => next w5 q45 (by rw [← hR]; exact (isoR_skip (by omega) (fun h' => by rw [hbad h] at h'; cases h'.2)).symm)
      refine ⟨fun hlt2 => ⟨fun hf => ?_, fun hf => ?_⟩, fun hge2 => ?_⟩
      · have hlt2 := dec_t hlt2
        intro w6 hd6
        have q6 := q45.trans (hd6.below w.heap.size)
        have hsr6 := hsr.keep q6
        have hmem : p.getD m 0 ∈ p := by
          have : m < p.length := by omega
          have e : p.getD m 0 = p[m] := by simp [List.getD, this]
          rw [e]; exact List.getElem_mem this
        have hto := hpe _ hmem
        have hne3 : p.getD m 0 ≠ j := fun h => hout (by rw [← h]; exact hmem)
        refine ⟨nn, fldp sr0 (col_all hx hsr6.x ⟨nn, fldp sr1 (col_all hy (hsr6.y hx) (atI (hp.keep q6) (by omega) hlt2 ?_))⟩)⟩
        rw [Int.toNat_natCast]
        refine c_spec_l01At hx (by omega) (by omega) (by omega) (by omega) (by omega) fun w7 q7 => ⟨q7, c_spec_l01At hy hto.1 (by omega) (by omega) (by omega) hne3 fun w8 q8 => ?_⟩
        have q78 := q7.trans (q8.mono q7.size)
        refine ⟨q78, ?_⟩
        rw [wrap_small (by omega) (by omega)]
        refine hN' _ _ ⟨(q5.trans (hd6.below _)).trans (q78.mono (by have := q5.size; have := (hd6.below w5.heap.size).size; omega)), m + 1, by simp only; omega, by omega, fun h a ha => ?_, fun h => ?_⟩ (by simp only; omega)
        · have h := eq_t h
          by_cases ham : a < m
          · exact hall hf a ham
          · have : a = m := by omega
            subst this
            exact h
        · have h := eq_f h
          unfold fitsD
          exact decide_eq_false fun hh => h (hh m (by omega)).2
      · intro _
        exact ⟨fun h => absurd h (by rw [hf]; simp), fun _ => bad hf⟩
      · have hge2 := dec_f hge2
        have : m = p.length := by omega
        subst this
        intro _
        refine ⟨fun hf => ?_, fun hf => bad hf⟩
        have hfits : fitsD x y p j = true := by
          unfold fitsD
          refine decide_eq_true fun a ha => ⟨fun h => hout ?_, hall hf a ha⟩
          rw [← h]
          have e : p.getD a 0 = p[a] := by simp [List.getD, ha]
          rw [e]; exact List.getElem_mem ha
        have hgo := isoR_go (f := fuel) (by omega) hsm hfits
        rw [hR] at hgo
        refine c_spec_l01Own (hp.keep q45) (by omega) fun w6 o c hc q6 ho => ?_
        have q56 := q45.trans (q6.mono q45.size)
        refine appI ho (by omega) fun o' w7 c' ho' m7 hc' => ?_
        have hz := q56.size; have hz5 := q45.size; have hz6 := q6.size
        have q7 : Below w.heap.size w w7 := q56.trans (m7.below (by omega) (by simp; omega))
        refine int_u64 (by omega) (by omega) ⟨by omega, ?_⟩
        rw [wbor (by omega) (by omega)]
        have hlt7 := ho'.lt
        refine c_spec_l06Go B hx hy Ix Iy hxy hk fuel (p ++ [(j : Int)]) o' (u ||| 2 ^ j) w7 _ (by simp; omega) (by have := q7.size; omega) (hsr.keep q7) (h1.keep q7) (h2.keep q7) (own_slI ho' (by simp; omega)) (fun e he => by
          rcases List.mem_append.1 he with he | he
          · exact hpe e he
          · simp at he; omega) (Nat.or_lt_two_pow hu (Nat.pow_lt_pow_right (by omega) (by omega))) (bits_more hbit) (fun hnone w8 q8 => ?_) (fun l hsome w8 o8 c8 m8 hc8 ho8 hs8 => ?_)
        · rw [hnone] at hgo
          exact next w8 (q7.trans (q8.mono q7.size)) hgo.symm
        · rw [hsome] at hgo
          show N _ (IntKind.i64.wrap ((j : Int) + 1)) w8
          rw [wrap_small (by omega) (by omega)]
          exact hN _ _ ⟨j + 1, by omega, by omega, .inr ⟨l, o8, c8, hgo, (mod_of_below q7 _).trans m8, hc8, ho8, hs8⟩⟩ (by omega)
    · have hge := dec_f hge
      have : j = x.n.toNat := by omega
      subst this
      intro _
      refine hn ?_ w3 q3
      rw [← hR, hxy, isoR_end]

end Go.Proofs.Ytkadckhealbdaaa

/- The reading of spec_l01Around, and its contract. No condition. -/
namespace Go.Proofs.Ytkadckhealbdaaa
open Go Go.RowKit Eng Mem
set_option linter.unusedVariables false
set_option maxRecDepth 100000
def B_spec_l01Around_3 (i1 : Int) (c2 : Int) (x3 : Value) (set7 : Int) (j8 : Int) (N : (Int × Int × Value) → (Int × Int) → World → Prop) (D0 : (Int × Unit) → World → Prop) (w : World) : Prop :=
  (QAll Try.prog (Instr.fieldAt 25 x3 0) .any fun (x10_3 : Value) => (QSub Try.prog (Instr.loadAt 2 x10_3) w (.int .i64) fun (x11_4 : Int) => (((decide (j8 < x11_4)) = true → (((j8 != i1) = true → (QSub Try.prog (Instr.loadAt 25 x3) w .any fun (x19_5 : Value) => (Fc Try.prog 118 #[x19_5, (.int .i64 i1), (.int .i64 j8)] w (.one (.int .i64)) fun (x22_7 : Int) w_6 => (((x22_7 == c2) = true → (QAll Try.prog (convert 2 102 (.int .i64 j8)) (.int .u64) fun (x28_8 : Int) => (0 ≤ x28_8 ∧ N (i1, c2, (x3 : Value)) ((IntKind.i64.wrap ((BitVec.toNat (BitVec.ofInt (IntKind.bits .i64) set7 ||| BitVec.ofInt (IntKind.bits .i64) (IntKind.i64.wrap ((1 : Int) * 2 ^ min (Int.toNat x28_8) 64))) : Nat))), (IntKind.i64.wrap (j8 + (1 : Int)))) w_6))) ∧ ((x22_7 == c2) = false → N (i1, c2, (x3 : Value)) (set7, (IntKind.i64.wrap (j8 + (1 : Int)))) w_6))))) ∧ ((j8 != i1) = false → N (i1, c2, (x3 : Value)) (set7, (IntKind.i64.wrap (j8 + (1 : Int)))) w))) ∧ ((decide (j8 < x11_4)) = false → D0 (set7, ()) w))))

abbrev L_spec_l01Around_3_e0 : List Slot := [.junk, .junk, .junk, .junk, .junk, .junk, .junk, .k (.int .i64), .junk, .junk, .junk, .junk, .junk, .junk, .junk, .junk, .junk, .junk, .junk, .junk, .junk, .junk, .junk, .junk, .junk, .junk, .junk, .junk, .junk, .junk, .junk, .junk]

abbrev L_spec_l01Around_3_sp : List Slot := [.junk, .k (.int .i64), .k (.int .i64), .k .any, .junk, .junk, .junk, .k (.int .i64), .k (.int .i64), .junk, .junk, .junk, .junk, .junk, .junk, .junk, .junk, .junk, .junk, .junk, .junk, .junk, .junk, .junk, .junk, .junk, .junk, .junk, .junk, .junk, .junk, .junk]
abbrev L_spec_l01Around_3_ex : List (Nat × List Slot) := [(0, L_spec_l01Around_3_e0)]
abbrev L_spec_l01Around_3_rt : List Slot := [.junk, .junk, .junk, .junk, .junk, .junk, .junk, .junk, .junk, .junk, .junk, .junk, .junk, .junk, .junk, .junk, .junk, .junk, .junk, .junk, .junk, .junk, .junk, .junk, .junk, .junk, .junk, .junk, .junk, .junk, .junk, .junk]

def L_spec_l01Around_3_b (Φ : Post) (u : (Int × Int × Value)) (N : (Int × Int × Value) → (Int × Int) → World → Prop) (s : (Int × Int)) (w : World) : Prop :=
  B_spec_l01Around_3 u.1 u.2.1 u.2.2 s.1 s.2 N (fun v w => ∀ j : Nat → Value, Φ (.exit 0) (mkT j 0 L_spec_l01Around_3_e0 v) w) w

theorem L_spec_l01Around_3_eq (j : Nat → Value) (u : (Int × Int × Value)) (s : (Int × Int)) (N : (Int × Int × Value) → (Int × Int) → World → Prop) (D0 : (Int × Unit) → World → Prop) (R : (Unit) → World → Prop) (w : World) :
    W Try.prog ty (fun _ _ _ _ => False) (loopAt Try.f117 3) (loopPost L_spec_l01Around_3_sp [(0, (⟨L_spec_l01Around_3_e0, D0⟩ : Door))] ⟨L_spec_l01Around_3_rt, R⟩ (fun v w => N ((fun v => (v.1, v.2.1, v.2.2.1)) v) ((fun v => (v.2.2.2.1, v.2.2.2.2.1)) v) w)) (mkT j 0 L_spec_l01Around_3_sp ((fun u s => (u.1, u.2.1, u.2.2, s.1, s.2, ())) u s)) w =
    B_spec_l01Around_3 u.1 u.2.1 u.2.2 s.1 s.2 N D0 w := by
  kernel_rfl

def O_spec_l01Around_1 : Code → Post → List SV → World → Prop :=
  orc 3 (loopAt Try.f117 3) L_spec_l01Around_3_sp (fun Φ fr w => LOOP (U := (Int × Int × Value)) (S := (Int × Int)) ((fun v => (v.1, v.2.1, v.2.2.1)) (extT L_spec_l01Around_3_sp fr)) (L_spec_l01Around_3_b Φ ((fun v => (v.1, v.2.1, v.2.2.1)) (extT L_spec_l01Around_3_sp fr))) ((fun v => (v.2.2.2.1, v.2.2.2.2.1)) (extT L_spec_l01Around_3_sp fr)) w) (fun _ _ _ _ => False)

theorem O_spec_l01Around_1_ok : Sound Try.prog O_spec_l01Around_1 :=
  orc_ok (sound_none _) fun Φ fr w hs h => loop_ok (ty := ty) follows (sound_none _) L_spec_l01Around_3_sp (fun v => (v.1, v.2.1, v.2.2.1)) (fun v => (v.2.2.2.1, v.2.2.2.2.1)) (fun u s => (u.1, u.2.1, u.2.2, s.1, s.2, ())) (fun _ => rfl) L_spec_l01Around_3_ex L_spec_l01Around_3_rt (body := L_spec_l01Around_3_b Φ) (fun j u s w N hb => by
    have e := L_spec_l01Around_3_eq j u s N (doorOf Φ (.exit 0) L_spec_l01Around_3_e0).D (doorOf Φ .ret L_spec_l01Around_3_rt).D w
    exact Eq.mpr e hb) hs h

def V_spec_l01Around (x0 : Value) (i1 : Int) (c2 : Int) (w : World) (K : Int → World → Prop) : Prop :=
  (Pr Try.prog (Instr.box 25 x0) w (.one .any) fun (x3_2 : Value) w_1 => (At (loopAt Try.f117 3) (loopAt Try.f117 3) (LOOP (U := (Int × Int × Value)) (S := (Int × Int)) (i1, c2, (x3_2 : Value)) (fun N_12 s_13 w_14 => B_spec_l01Around_3 i1 c2 (x3_2 : Value) s_13.1 s_13.2 N_12 (fun (v_9 : (Int × Unit)) w_10 => ∀ _j_11 : Nat → Value, K v_9.1 w_10) w_14) ((0 : Int), (0 : Int)) w_1)))

theorem eq_spec_l01Around (x0 : Value) (i1 : Int) (c2 : Int) (w : World) (K : Int → World → Prop) :
    W Try.prog ty O_spec_l01Around_1 (bodyOf Try.f117) (fnPost Try.prog Try.f117.results.toList (.one (.int .i64)) K) (frame0 [x0, (.int .i64 i1), (.int .i64 c2)] 32) w = V_spec_l01Around x0 i1 c2 w K := by
  kernel_rfl

theorem body_spec_l01Around : Try.f117.body = some (bodyOf Try.f117) := by kernel_rfl
theorem name_spec_l01Around : (Try.f117.name == "runtime.NumGoroutine") = false := by kernel_rfl

theorem walk_spec_l01Around (x0 : Value) (i1 : Int) (c2 : Int) {w : World} {K : Int → World → Prop} (h : V_spec_l01Around x0 i1 c2 w K) : Fc Try.prog 117 #[x0, (.int .i64 i1), (.int .i64 c2)] w (.one (.int .i64)) K :=
  fn_ok follows O_spec_l01Around_1_ok Try.func117 name_spec_l01Around body_spec_l01Around Try.ntmps117 [x0, (.int .i64 i1), (.int .i64 c2)] (Eq.mpr (eq_spec_l01Around x0 i1 c2 w K) h)

-- uses S8Deg
-- uses S7Dig
theorem wshl {j : Int} (h0 : 0 ≤ j) (h1 : j < 62) : IntKind.i64.wrap (1 * 2 ^ min (Int.toNat j) 64) = ((2 ^ j.toNat : Nat) : Int) := by
  have e : ((2 : Int) ^ j.toNat) = ((2 ^ j.toNat : Nat) : Int) := by simp
  have : 2 ^ j.toNat ≤ 2 ^ 61 := Nat.pow_le_pow_right (by omega) (by omega)
  rw [Nat.min_eq_left (by omega), Int.one_mul, e]
  generalize 2 ^ j.toNat = t at this
  exact wrap_small (by omega) (by omega)
theorem c_spec_l01Around {c : Col} {i col : Int} {w : World} {K : Int → World → Prop} (hc : c.Ok) (h0 : 0 ≤ i) (h1 : i < 17) (n1 : c.n ≤ 17) (hK : ∀ w', Below w.heap.size w w' → K (bitsN (fun j => joinB c i j col) c.n.toNat : Nat) w') :
    Fc Try.prog F_spec_l01Around #[c.val, .int .i64 i, .int .i64 col] w (.one (.int .i64)) K := by
  refine walk_spec_l01Around _ _ _ (col_box fun b w1 m1 hx => ?_)
  have q1 := m1.below
  refine lp (fun s w' => Below w1.heap.size w1 w' ∧ ∃ j : Nat, s.2 = j ∧ j ≤ c.n.toNat ∧ s.1 = (bitsN (fun j => joinB c i j col) j : Nat)) (fun s _ => (17 - s.2).toNat) ⟨Below.refl _ _, 0, rfl, by omega, by simp [bitsN]⟩ ?_
  rintro ⟨a, t⟩ w2 N ⟨q2, j, hj, hjn, ha⟩ hN
  simp only at hj ha
  subst hj; subst ha
  unfold B_spec_l01Around_3
  dsimp only
  have hx2 := hx.keep q2
  refine col_n hx2 ⟨fun h => ?_, fun h => ?_⟩
  · have h := dec_t h
    have hlt := bitsN_lt (fun j => joinB c i j col) j
    have hp : 2 ^ j ≤ 2 ^ 17 := Nat.pow_le_pow_right (by omega) (by omega)
    have hs : bitsN (fun j => joinB c i j col) (j + 1) = bitsN (fun j => joinB c i j col) j + if joinB c i j col then 2 ^ j else 0 := rfl
    have no : joinB c i j col = false → ∀ w', Below w1.heap.size w1 w' → N (i, col, ptr b 0) (((bitsN (fun j => joinB c i j col) j : Nat) : Int), IntKind.i64.wrap ((j : Int) + 1)) w' := fun hf w' hb => by
      rw [wrap_small (by omega) (by omega)]
      refine hN _ _ ⟨hb, j + 1, by simp only; omega, by omega, ?_⟩ (by simp only; omega)
      simp only [hs, hf]
      simp
    refine ⟨fun hne => ?_, fun he => ?_⟩
    · have hne := ne_t hne
      refine col_all hc hx2 (c_spec_l01At hc h0 h1 (by omega) (by omega) (Ne.symm hne) fun w3 hb3 => ?_)
      have q3 := q2.trans (hb3.mono q2.size)
      refine ⟨fun hcol => ?_, fun hcol => ?_⟩
      · have hcol := eq_t hcol
        have hyes : joinB c i j col = true := by simp only [joinB, decide_eq_true_eq]; exact ⟨Ne.symm hne, hcol⟩
        refine int_u64 (by omega) (by omega) ⟨by omega, ?_⟩
        have hor := bitsN_or hlt
        rw [wshl (by omega) (by omega), Int.toNat_natCast]
        generalize 2 ^ j = T at hs hlt hp hor ⊢
        rw [wor (by omega) (by omega) (by omega) (by omega), wrap_small (n := (j : Int) + 1) (by omega) (by omega)]
        refine hN _ _ ⟨q3, j + 1, by simp only; omega, by omega, ?_⟩ (by simp only; omega)
        simp only [hs, hyes, if_true, Int.toNat_natCast, hor]
      · exact no (by simp only [joinB, decide_eq_false_iff_not]; exact fun hh => eq_f hcol hh.2) w3 q3
    · exact no (by simp only [joinB, decide_eq_false_iff_not]; exact fun hh => hh.1 (ne_f he).symm) w2 q2
  · have h := dec_f h
    intro _
    have : j = c.n.toNat := by omega
    subst this
    exact hK w2 (q1.trans (q2.mono q1.size))

end Go.Proofs.Ytkadckhealbdaaa

/- The reading of spec_l01Ones, and its contract. No condition. -/
namespace Go.Proofs.Ytkadckhealbdaaa
open Go Go.RowKit Eng Mem
set_option linter.unusedVariables false
set_option maxRecDepth 100000
def B_spec_l01Ones_2 (n0 : Int) (count3 : Int) (N : Unit → (Int × Int) → World → Prop) (D0 : (Int × Unit) → World → Prop) (w : World) : Prop :=
  (((decide (n0 > (0 : Int))) = true → ((2 : Int) ≠ 0 ∧ ((2 : Int) ≠ 0 ∧ N () ((IntKind.i64.wrap (Int.tdiv n0 (2 : Int))), (IntKind.i64.wrap (count3 + (Int.tmod n0 (2 : Int))))) w))) ∧ ((decide (n0 > (0 : Int))) = false → D0 (count3, ()) w))

abbrev L_spec_l01Ones_2_e0 : List Slot := [.junk, .junk, .junk, .k (.int .i64), .junk, .junk, .junk, .junk, .junk, .junk, .junk, .junk, .junk]

abbrev L_spec_l01Ones_2_sp : List Slot := [.k (.int .i64), .junk, .junk, .k (.int .i64), .junk, .junk, .junk, .junk, .junk, .junk, .junk, .junk, .junk]
abbrev L_spec_l01Ones_2_ex : List (Nat × List Slot) := [(0, L_spec_l01Ones_2_e0)]
abbrev L_spec_l01Ones_2_rt : List Slot := [.junk, .junk, .junk, .junk, .junk, .junk, .junk, .junk, .junk, .junk, .junk, .junk, .junk]

def L_spec_l01Ones_2_b (Φ : Post) (u : Unit) (N : Unit → (Int × Int) → World → Prop) (s : (Int × Int)) (w : World) : Prop :=
  B_spec_l01Ones_2 s.1 s.2 N (fun v w => ∀ j : Nat → Value, Φ (.exit 0) (mkT j 0 L_spec_l01Ones_2_e0 v) w) w

theorem L_spec_l01Ones_2_eq (j : Nat → Value) (u : Unit) (s : (Int × Int)) (N : Unit → (Int × Int) → World → Prop) (D0 : (Int × Unit) → World → Prop) (R : (Unit) → World → Prop) (w : World) :
    W Try.prog ty (fun _ _ _ _ => False) (loopAt Try.f116 2) (loopPost L_spec_l01Ones_2_sp [(0, (⟨L_spec_l01Ones_2_e0, D0⟩ : Door))] ⟨L_spec_l01Ones_2_rt, R⟩ (fun v w => N ((fun v => ()) v) ((fun v => (v.1, v.2.1)) v) w)) (mkT j 0 L_spec_l01Ones_2_sp ((fun u s => (s.1, s.2, ())) u s)) w =
    B_spec_l01Ones_2 s.1 s.2 N D0 w := by
  kernel_rfl

def O_spec_l01Ones_1 : Code → Post → List SV → World → Prop :=
  orc 2 (loopAt Try.f116 2) L_spec_l01Ones_2_sp (fun Φ fr w => LOOP (U := Unit) (S := (Int × Int)) ((fun v => ()) (extT L_spec_l01Ones_2_sp fr)) (L_spec_l01Ones_2_b Φ ((fun v => ()) (extT L_spec_l01Ones_2_sp fr))) ((fun v => (v.1, v.2.1)) (extT L_spec_l01Ones_2_sp fr)) w) (fun _ _ _ _ => False)

theorem O_spec_l01Ones_1_ok : Sound Try.prog O_spec_l01Ones_1 :=
  orc_ok (sound_none _) fun Φ fr w hs h => loop_ok (ty := ty) follows (sound_none _) L_spec_l01Ones_2_sp (fun v => ()) (fun v => (v.1, v.2.1)) (fun u s => (s.1, s.2, ())) (fun _ => rfl) L_spec_l01Ones_2_ex L_spec_l01Ones_2_rt (body := L_spec_l01Ones_2_b Φ) (fun j u s w N hb => by
    have e := L_spec_l01Ones_2_eq j u s N (doorOf Φ (.exit 0) L_spec_l01Ones_2_e0).D (doorOf Φ .ret L_spec_l01Ones_2_rt).D w
    exact Eq.mpr e hb) hs h

def V_spec_l01Ones (n0 : Int) (w : World) (K : Int → World → Prop) : Prop :=
  (At (loopAt Try.f116 2) (loopAt Try.f116 2) (LOOP (U := Unit) (S := (Int × Int)) () (fun N_4 s_5 w_6 => B_spec_l01Ones_2 s_5.1 s_5.2 N_4 (fun (v_1 : (Int × Unit)) w_2 => ∀ _j_3 : Nat → Value, K v_1.1 w_2) w_6) (n0, (0 : Int)) w))

theorem eq_spec_l01Ones (n0 : Int) (w : World) (K : Int → World → Prop) :
    W Try.prog ty O_spec_l01Ones_1 (bodyOf Try.f116) (fnPost Try.prog Try.f116.results.toList (.one (.int .i64)) K) (frame0 [(.int .i64 n0)] 13) w = V_spec_l01Ones n0 w K := by
  kernel_rfl

theorem body_spec_l01Ones : Try.f116.body = some (bodyOf Try.f116) := by kernel_rfl
theorem name_spec_l01Ones : (Try.f116.name == "runtime.NumGoroutine") = false := by kernel_rfl

theorem walk_spec_l01Ones (n0 : Int) {w : World} {K : Int → World → Prop} (h : V_spec_l01Ones n0 w K) : Fc Try.prog 116 #[(.int .i64 n0)] w (.one (.int .i64)) K :=
  fn_ok follows O_spec_l01Ones_1_ok Try.func116 name_spec_l01Ones body_spec_l01Ones Try.ntmps116 [(.int .i64 n0)] (Eq.mpr (eq_spec_l01Ones n0 w K) h)

-- uses S8Deg
theorem c_spec_l01Ones {n : Nat} {w : World} {K : Int → World → Prop} (hn : n < 2 ^ 62) (hK : K (onesN n : Int) w) : Fc Try.prog F_spec_l01Ones #[.int .i64 (n : Int)] w (.one (.int .i64)) K := by
  refine walk_spec_l01Ones _ ?_
  have hl := onesN_le hn
  refine lp (fun s w' => w' = w ∧ ∃ m : Nat, s.1 = m ∧ m < 2 ^ 62 ∧ 0 ≤ s.2 ∧ s.2 + onesN m = onesN n) (fun s _ => s.1.toNat) ⟨rfl, n, rfl, hn, by simp, by simp⟩ ?_
  rintro ⟨a, c⟩ w' N ⟨rfl, m, hm, hm2, c0, hc⟩ hN
  simp only at hm c0 hc
  subst hm
  unfold B_spec_l01Ones_2
  dsimp only
  refine ⟨fun h => ⟨by decide, by decide, ?_⟩, fun h => ?_⟩
  · have h := dec_t h
    have hs := onesN_step m
    rw [show Int.tdiv (m : Int) 2 = ((m / 2 : Nat) : Int) from by rw [Int.tdiv_eq_ediv_of_nonneg (by omega)]; omega, show Int.tmod (m : Int) 2 = ((m % 2 : Nat) : Int) from by rw [Int.tmod_eq_emod_of_nonneg (by omega)]; omega,
      wrap_small (n := ((m / 2 : Nat) : Int)) (by omega) (by omega), wrap_small (by omega) (by omega)]
    exact hN _ _ ⟨rfl, m / 2, rfl, by omega, by simp only; omega, by simp only; omega⟩ (by simp only; omega)
  · have h := dec_f h
    have : m = 0 := by omega
    subst this
    intro _
    rw [show c = (onesN n : Int) from by have : onesN 0 = 0 := by simp [onesN]
                                         omega]
    exact hK

end Go.Proofs.Ytkadckhealbdaaa

/- The reading of spec_l06Types, and its contract. No condition. -/
namespace Go.Proofs.Ytkadckhealbdaaa
open Go Go.RowKit Eng Mem
set_option linter.unusedVariables false
set_option maxRecDepth 100000
def B_spec_l06Types_7 (x1 : Value) (out3 : Value) (p4 : Int) (own5 : Int) (c6 : Int) (N : (Value × Value × Int) → (Int × Int) → World → Prop) (D2 : (Value × Value × Int × Int × Unit) → World → Prop) (w : World) : Prop :=
  (QAll Try.prog (Instr.fieldAt 25 x1 1) .any fun (x15_7 : Value) => (QSub Try.prog (Instr.loadAt 2 x15_7) w (.int .i64) fun (x16_8 : Int) => (((decide (c6 < x16_8)) = true → (QSub Try.prog (Instr.loadAt 25 x1) w .any fun (x22_9 : Value) => (Fc Try.prog 117 #[x22_9, (.int .i64 p4), (.int .i64 c6)] w (.one (.int .i64)) fun (x25_11 : Int) w_10 => (Fc Try.prog 116 #[(.int .i64 x25_11)] w_10 (.one (.int .i64)) fun (x26_13 : Int) w_12 => N ((x1 : Value), (out3 : Value), p4) ((IntKind.i64.wrap ((IntKind.i64.wrap (own5 * (18 : Int))) + x26_13)), (IntKind.i64.wrap (c6 + (1 : Int)))) w_12)))) ∧ ((decide (c6 < x16_8)) = false → D2 ((x1 : Value), (out3 : Value), p4, own5, ()) w))))

abbrev L_spec_l06Types_7_e2 : List Slot := [.junk, .k .any, .junk, .k .any, .k (.int .i64), .k (.int .i64), .junk, .junk, .junk, .junk, .junk, .junk, .junk, .junk, .junk, .junk, .junk, .junk, .junk, .junk, .junk, .junk, .junk, .junk, .junk, .junk, .junk, .junk, .junk, .junk, .junk, .junk, .junk]

abbrev L_spec_l06Types_7_sp : List Slot := [.junk, .k .any, .junk, .k .any, .k (.int .i64), .k (.int .i64), .k (.int .i64), .junk, .junk, .junk, .junk, .junk, .junk, .junk, .junk, .junk, .junk, .junk, .junk, .junk, .junk, .junk, .junk, .junk, .junk, .junk, .junk, .junk, .junk, .junk, .junk, .junk, .junk]
abbrev L_spec_l06Types_7_ex : List (Nat × List Slot) := [(2, L_spec_l06Types_7_e2)]
abbrev L_spec_l06Types_7_rt : List Slot := [.junk, .junk, .junk, .junk, .junk, .junk, .junk, .junk, .junk, .junk, .junk, .junk, .junk, .junk, .junk, .junk, .junk, .junk, .junk, .junk, .junk, .junk, .junk, .junk, .junk, .junk, .junk, .junk, .junk, .junk, .junk, .junk, .junk]

def L_spec_l06Types_7_b (Φ : Post) (u : (Value × Value × Int)) (N : (Value × Value × Int) → (Int × Int) → World → Prop) (s : (Int × Int)) (w : World) : Prop :=
  B_spec_l06Types_7 u.1 u.2.1 u.2.2 s.1 s.2 N (fun v w => ∀ j : Nat → Value, Φ (.exit 2) (mkT j 0 L_spec_l06Types_7_e2 v) w) w

theorem L_spec_l06Types_7_eq (j : Nat → Value) (u : (Value × Value × Int)) (s : (Int × Int)) (N : (Value × Value × Int) → (Int × Int) → World → Prop) (D2 : (Value × Value × Int × Int × Unit) → World → Prop) (R : (Unit) → World → Prop) (w : World) :
    W Try.prog ty (fun _ _ _ _ => False) (loopAt Try.f96 7) (loopPost L_spec_l06Types_7_sp [(2, (⟨L_spec_l06Types_7_e2, D2⟩ : Door))] ⟨L_spec_l06Types_7_rt, R⟩ (fun v w => N ((fun v => (v.1, v.2.1, v.2.2.1)) v) ((fun v => (v.2.2.2.1, v.2.2.2.2.1)) v) w)) (mkT j 0 L_spec_l06Types_7_sp ((fun u s => (u.1, u.2.1, u.2.2, s.1, s.2, ())) u s)) w =
    B_spec_l06Types_7 u.1 u.2.1 u.2.2 s.1 s.2 N D2 w := by
  kernel_rfl

def O_spec_l06Types_1 : Code → Post → List SV → World → Prop :=
  orc 7 (loopAt Try.f96 7) L_spec_l06Types_7_sp (fun Φ fr w => LOOP (U := (Value × Value × Int)) (S := (Int × Int)) ((fun v => (v.1, v.2.1, v.2.2.1)) (extT L_spec_l06Types_7_sp fr)) (L_spec_l06Types_7_b Φ ((fun v => (v.1, v.2.1, v.2.2.1)) (extT L_spec_l06Types_7_sp fr))) ((fun v => (v.2.2.2.1, v.2.2.2.2.1)) (extT L_spec_l06Types_7_sp fr)) w) (fun _ _ _ _ => False)

theorem O_spec_l06Types_1_ok : Sound Try.prog O_spec_l06Types_1 :=
  orc_ok (sound_none _) fun Φ fr w hs h => loop_ok (ty := ty) follows (sound_none _) L_spec_l06Types_7_sp (fun v => (v.1, v.2.1, v.2.2.1)) (fun v => (v.2.2.2.1, v.2.2.2.2.1)) (fun u s => (u.1, u.2.1, u.2.2, s.1, s.2, ())) (fun _ => rfl) L_spec_l06Types_7_ex L_spec_l06Types_7_rt (body := L_spec_l06Types_7_b Φ) (fun j u s w N hb => by
    have e := L_spec_l06Types_7_eq j u s N (doorOf Φ (.exit 2) L_spec_l06Types_7_e2).D (doorOf Φ .ret L_spec_l06Types_7_rt).D w
    exact Eq.mpr e hb) hs h

def B_spec_l06Types_3 (x1 : Value) (out3 : Value) (p4 : Int) (N : Value → (Value × Int) → World → Prop) (D0 : (Value × Unit) → World → Prop) (w : World) : Prop :=
  (QAll Try.prog (Instr.fieldAt 25 x1 0) .any fun (x9_5 : Value) => (QSub Try.prog (Instr.loadAt 2 x9_5) w (.int .i64) fun (x10_6 : Int) => (((decide (p4 < x10_6)) = true → (At (loopAt Try.f96 7) (loopAt Try.f96 7) (LOOP (U := (Value × Value × Int)) (S := (Int × Int)) ((x1 : Value), (out3 : Value), p4) (fun N_21 s_22 w_23 => B_spec_l06Types_7 (x1 : Value) (out3 : Value) p4 s_22.1 s_22.2 N_21 (fun (v_14 : (Value × Value × Int × Int × Unit)) w_15 => ∀ _j_16 : Nat → Value, (Pr Try.prog (Instr.buildSlice 31 1 #[(0, (.int .i64 v_14.2.2.2.1))]) w_15 (.one .any) fun (x30_18 : Value) w_17 => (Pr Try.prog (Builtin.append_ #[31, 31] 31 #[v_14.2.1, x30_18]) w_17 (.one .any) fun (x31_20 : Value) w_19 => N (v_14.1 : Value) ((x31_20 : Value), (IntKind.i64.wrap (v_14.2.2.1 + (1 : Int)))) w_19))) w_23) ((0 : Int), (0 : Int)) w))) ∧ ((decide (p4 < x10_6)) = false → D0 ((out3 : Value), ()) w))))

abbrev L_spec_l06Types_3_e0 : List Slot := [.junk, .junk, .junk, .k .any, .junk, .junk, .junk, .junk, .junk, .junk, .junk, .junk, .junk, .junk, .junk, .junk, .junk, .junk, .junk, .junk, .junk, .junk, .junk, .junk, .junk, .junk, .junk, .junk, .junk, .junk, .junk, .junk, .junk]

abbrev L_spec_l06Types_3_sp : List Slot := [.junk, .k .any, .junk, .k .any, .k (.int .i64), .junk, .junk, .junk, .junk, .junk, .junk, .junk, .junk, .junk, .junk, .junk, .junk, .junk, .junk, .junk, .junk, .junk, .junk, .junk, .junk, .junk, .junk, .junk, .junk, .junk, .junk, .junk, .junk]
abbrev L_spec_l06Types_3_ex : List (Nat × List Slot) := [(0, L_spec_l06Types_3_e0)]
abbrev L_spec_l06Types_3_rt : List Slot := [.junk, .junk, .junk, .junk, .junk, .junk, .junk, .junk, .junk, .junk, .junk, .junk, .junk, .junk, .junk, .junk, .junk, .junk, .junk, .junk, .junk, .junk, .junk, .junk, .junk, .junk, .junk, .junk, .junk, .junk, .junk, .junk, .junk]

def L_spec_l06Types_3_b (Φ : Post) (u : Value) (N : Value → (Value × Int) → World → Prop) (s : (Value × Int)) (w : World) : Prop :=
  B_spec_l06Types_3 u s.1 s.2 N (fun v w => ∀ j : Nat → Value, Φ (.exit 0) (mkT j 0 L_spec_l06Types_3_e0 v) w) w

theorem L_spec_l06Types_3_eq (j : Nat → Value) (u : Value) (s : (Value × Int)) (N : Value → (Value × Int) → World → Prop) (D0 : (Value × Unit) → World → Prop) (R : (Unit) → World → Prop) (w : World) :
    W Try.prog ty O_spec_l06Types_1 (loopAt Try.f96 3) (loopPost L_spec_l06Types_3_sp [(0, (⟨L_spec_l06Types_3_e0, D0⟩ : Door))] ⟨L_spec_l06Types_3_rt, R⟩ (fun v w => N ((fun v => v.1) v) ((fun v => (v.2.1, v.2.2.1)) v) w)) (mkT j 0 L_spec_l06Types_3_sp ((fun u s => (u, s.1, s.2, ())) u s)) w =
    B_spec_l06Types_3 u s.1 s.2 N D0 w := by
  kernel_rfl

def O_spec_l06Types_2 : Code → Post → List SV → World → Prop :=
  orc 3 (loopAt Try.f96 3) L_spec_l06Types_3_sp (fun Φ fr w => LOOP (U := Value) (S := (Value × Int)) ((fun v => v.1) (extT L_spec_l06Types_3_sp fr)) (L_spec_l06Types_3_b Φ ((fun v => v.1) (extT L_spec_l06Types_3_sp fr))) ((fun v => (v.2.1, v.2.2.1)) (extT L_spec_l06Types_3_sp fr)) w) O_spec_l06Types_1

theorem O_spec_l06Types_2_ok : Sound Try.prog O_spec_l06Types_2 :=
  orc_ok O_spec_l06Types_1_ok fun Φ fr w hs h => loop_ok (ty := ty) follows O_spec_l06Types_1_ok L_spec_l06Types_3_sp (fun v => v.1) (fun v => (v.2.1, v.2.2.1)) (fun u s => (u, s.1, s.2, ())) (fun _ => rfl) L_spec_l06Types_3_ex L_spec_l06Types_3_rt (body := L_spec_l06Types_3_b Φ) (fun j u s w N hb => by
    have e := L_spec_l06Types_3_eq j u s N (doorOf Φ (.exit 0) L_spec_l06Types_3_e0).D (doorOf Φ .ret L_spec_l06Types_3_rt).D w
    exact Eq.mpr e hb) hs h

def V_spec_l06Types (x0 : Value) (w : World) (K : Value → World → Prop) : Prop :=
  (Pr Try.prog (Instr.box 25 x0) w (.one .any) fun (x1_2 : Value) w_1 => (Pr Try.prog (Instr.buildSlice 31 0 #[]) w_1 (.one .any) fun (x7_4 : Value) w_3 => (At (loopAt Try.f96 3) (loopAt Try.f96 3) (LOOP (U := Value) (S := (Value × Int)) (x1_2 : Value) (fun N_27 s_28 w_29 => B_spec_l06Types_3 (x1_2 : Value) s_28.1 s_28.2 N_27 (fun (v_24 : (Value × Unit)) w_25 => ∀ _j_26 : Nat → Value, K (v_24.1 : Value) w_25) w_29) ((x7_4 : Value), (0 : Int)) w_3))))

theorem eq_spec_l06Types (x0 : Value) (w : World) (K : Value → World → Prop) :
    W Try.prog ty O_spec_l06Types_2 (bodyOf Try.f96) (fnPost Try.prog Try.f96.results.toList (.one .any) K) (frame0 [x0] 33) w = V_spec_l06Types x0 w K := by
  kernel_rfl

theorem body_spec_l06Types : Try.f96.body = some (bodyOf Try.f96) := by kernel_rfl
theorem name_spec_l06Types : (Try.f96.name == "runtime.NumGoroutine") = false := by kernel_rfl

theorem walk_spec_l06Types (x0 : Value) {w : World} {K : Value → World → Prop} (h : V_spec_l06Types x0 w K) : Fc Try.prog 96 #[x0] w (.one .any) K :=
  fn_ok follows O_spec_l06Types_2_ok Try.func96 name_spec_l06Types body_spec_l06Types Try.ntmps96 [x0] (Eq.mpr (eq_spec_l06Types x0 w K) h)

-- uses S9IsoS
theorem c_spec_l06Types {x : Col} {w : World} {K : Value → World → Prop} (hx : x.Ok) (hI : x.Is) (hK : ∀ v w' b, w.heap.size ≤ b → Below w.heap.size w w' → OwnI w' b v (typesL x x.n.toNat) → K v w') :
    Fc Try.prog F_spec_l06Types #[x.val] w (.one .any) K := by
  have n0 := hI.1; have n1 := hI.2.1; have k0 := hI.2.2.1; have k4 := hI.2.2.2.1
  refine walk_spec_l06Types _ (col_box fun b1 w1 m1 ax => nilI fun b0 v0 w2 e0 q2 o0 => ?_)
  have q1 := m1.below
  have q12 := q1.trans (q2.mono q1.size)
  have ax2 := ax.keep q2
  have hs1 := q1.size; have hs2 := q12.size
  have bd : ∀ (i : Int) (c : Nat), c ≤ 4 → 0 ≤ typeN x i c ∧ typeN x i c < 104976 := fun i c hc => by
    have := typeN_bd n1 i c
    have e : (18 : Int) ^ c ≤ 104976 := by
      have : c = 0 ∨ c = 1 ∨ c = 2 ∨ c = 3 ∨ c = 4 := by omega
      rcases this with h | h | h | h | h <;> subst h <;> decide
    omega
  refine lp (fun s w' => Below w1.heap.size w1 w' ∧ ∃ (i b : Nat), s.2 = i ∧ i ≤ x.n.toNat ∧ w1.heap.size ≤ b ∧ OwnI w' b s.1 (typesL x i)) (fun s _ => (17 - s.2).toNat) ⟨q2, 0, b0, rfl, by omega, by omega, o0⟩ ?_
  rintro ⟨v, t⟩ w3 N ⟨q3, i, b, hi, hin, hb, ho⟩ hN
  simp only at hi ho
  subst hi
  unfold B_spec_l06Types_3
  dsimp only
  refine col_n (ax.keep q3) ⟨fun hlt => ?_, fun hge => ?_⟩
  · have hlt := dec_t hlt
    refine lp (fun s w' => Below w3.heap.size w3 w' ∧ ∃ c : Nat, s.2 = c ∧ c ≤ x.k.toNat ∧ s.1 = typeN x i c) (fun s _ => (17 - s.2).toNat) ⟨Below.refl _ _, 0, rfl, by omega, rfl⟩ ?_
    rintro ⟨own, t⟩ w4 N' ⟨q4, c, hc, hck, hown⟩ hN'
    simp only at hc hown
    subst hc; subst hown
    unfold B_spec_l06Types_7
    dsimp only
    have q34 := q3.trans (q4.mono q3.size)
    refine col_k (ax.keep q34) ⟨fun hlt2 => ?_, fun hge2 => ?_⟩
    · have hlt2 := dec_t hlt2
      refine col_all hx (ax.keep q34) (c_spec_l01Around hx (by omega) (by omega) n1 fun w5 q5 => c_spec_l01Ones (Nat.lt_of_lt_of_le (bitsN_lt _ _) (Nat.pow_le_pow_right (by omega) (by omega))) ?_)
      rw [onesN_bits]
      have hd : (List.range x.n.toNat).countP (fun j : Nat => joinB x i j c) = degN x i c := rfl
      rw [hd]
      have b1 := bd i c (by omega)
      have b2 := bd i (c + 1) (by omega)
      have hs : typeN x i (c + 1) = typeN x i c * 18 + degN x i c := rfl
      rw [wrap_small (n := typeN x i c * 18) (by omega) (by omega), wrap_small (n := (c : Int) + 1) (by omega) (by omega), wrap_small (by omega) (by omega)]
      exact hN' _ _ ⟨q4.trans (q5.mono q4.size), c + 1, by simp only; omega, by omega, by simp only [hs]⟩ (by simp only; omega)
    · have hge2 := dec_f hge2
      have : c = x.k.toNat := by omega
      subst this
      intro _
      have hs3 := q34.size
      refine appI (ho.keep q4) (by rw [typesL_len]; omega) fun v' w5 b' o5 m5 hb5 => ?_
      rw [wrap_small (by omega) (by omega)]
      have hz3 := q3.size; have hz4 := q4.size
      refine hN _ _ ⟨q34.trans (m5.below (by omega) (by simp; omega)), i + 1, b', by simp only; omega, by omega, by omega, ?_⟩ (by simp only; omega)
      rw [typesL_succ]
      exact o5
  · have hge := dec_f hge
    have : i = x.n.toNat := by omega
    subst this
    intro _
    exact hK v w3 b (by omega) (q1.trans (q3.mono hs1)) ho

end Go.Proofs.Ytkadckhealbdaaa

/- The reading of spec_l06Between, and its contract. No condition. -/
namespace Go.Proofs.Ytkadckhealbdaaa
open Go Go.RowKit Eng Mem
set_option linter.unusedVariables false
set_option maxRecDepth 100000
def V_spec_l06Between (x0 : Value) (y1 : Value) (most2 : Int) (w : World) (K : Value → World → Prop) : Prop :=
  (Pr Try.prog (Instr.box 25 x0) w (.one .any) fun (x3_2 : Value) w_1 => (Pr Try.prog (Instr.box 25 y1) w_1 (.one .any) fun (y4_4 : Value) w_3 => (∀ w_5, Drew w_3 w_5 → (QSub Try.prog (Instr.loadAt 25 x3_2) w_5 .any fun (x8_6 : Value) => (QSub Try.prog (Instr.loadAt 25 y4_4) w_5 .any fun (x9_7 : Value) => (QSub Try.prog (Instr.loadAt 25 x3_2) w_5 .any fun (x10_8 : Value) => (QSub Try.prog (Instr.loadAt 25 y4_4) w_5 .any fun (x12_9 : Value) => (Fc Try.prog 96 #[x10_8] w_5 (.one .any) fun (x11_11 : Value) w_10 => (Keeps w_5 w_10 ((Fc Try.prog 96 #[x12_9] w_10 (.one .any) fun (x13_13 : Value) w_12 => (Keeps w_5 w_12 ((Pr Try.prog (Instr.build 73 #[(0, x8_6), (1, x9_7), (2, x11_11), (3, x13_13), (4, (.int .i64 most2))]) w_12 (.one .any) fun (x15_15 : Value) w_14 => (Keeps w_5 w_14 ((Pr Try.prog (Instr.box 73 x15_15) w_14 (.one .any) fun (x16_17 : Value) w_16 => (Keeps w_5 w_16 ((QAll Try.prog (Instr.fieldAt 25 x3_2 0) .any fun (x17_18 : Value) => (QSub Try.prog (Instr.loadAt 2 x17_18) w_16 (.int .i64) fun (x18_19 : Int) => (QAll Try.prog (Instr.fieldAt 25 y4_4 0) .any fun (x19_20 : Value) => (QSub Try.prog (Instr.loadAt 2 x19_20) w_16 (.int .i64) fun (x20_21 : Int) => (((x18_19 != x20_21) = true → K (x16_17 : Value) w_16) ∧ ((x18_19 != x20_21) = false → (QAll Try.prog (Instr.fieldAt 25 x3_2 1) .any fun (x23_22 : Value) => (QSub Try.prog (Instr.loadAt 2 x23_22) w_16 (.int .i64) fun (x24_23 : Int) => (QAll Try.prog (Instr.fieldAt 25 y4_4 1) .any fun (x25_24 : Value) => (QSub Try.prog (Instr.loadAt 2 x25_24) w_16 (.int .i64) fun (x26_25 : Int) => (((x24_23 != x26_25) = true → K (x16_17 : Value) w_16) ∧ ((x24_23 != x26_25) = false → (Pr Try.prog (Instr.buildSlice 31 0 #[]) w_16 (.one .any) fun (x31_27 : Value) w_26 => (Fc Try.prog 97 #[x16_17, x31_27, (.int .i64 (0 : Int))] w_26 .unit fun (x32_29 : Unit) w_28 => K (x16_17 : Value) w_28)))))))))))))))))))))))))))))))))

theorem eq_spec_l06Between (x0 : Value) (y1 : Value) (most2 : Int) (w : World) (K : Value → World → Prop) :
    W Try.prog ty (fun _ _ _ _ => False) (bodyOf Try.f66) (fnPost Try.prog Try.f66.results.toList (.one .any) K) (frame0 [x0, y1, (.int .i64 most2)] 34) w = V_spec_l06Between x0 y1 most2 w K := by
  kernel_rfl

theorem body_spec_l06Between : Try.f66.body = some (bodyOf Try.f66) := by kernel_rfl
theorem name_spec_l06Between : (Try.f66.name == "runtime.NumGoroutine") = false := by kernel_rfl

theorem walk_spec_l06Between (x0 : Value) (y1 : Value) (most2 : Int) {w : World} {K : Value → World → Prop} (h : V_spec_l06Between x0 y1 most2 w K) : Fc Try.prog 66 #[x0, y1, (.int .i64 most2)] w (.one .any) K :=
  fn_ok follows (sound_none _) Try.func66 name_spec_l06Between body_spec_l06Between Try.ntmps66 [x0, y1, (.int .i64 most2)] (Eq.mpr (eq_spec_l06Between x0 y1 most2 w K) h)

-- uses S9IsoS
theorem c_spec_l06Between {x y : Col} {w : World} {K : Value → World → Prop} (hx : x.Ok) (hy : y.Ok) (Ix : x.Is) (Iy : y.Is)
    (hn : isoOf x y = none → ∀ w' b one two, w.heap.size ≤ b → Below w.heap.size w w' → SrAt w' b x y one two 1 0 (.slice none 0 0) → K (ptr b 0) w')
    (hs : ∀ l, isoOf x y = some l → ∀ w' b one two u c, w.heap.size ≤ b → Below w.heap.size w w' → w.heap.size ≤ c → OwnI w' c u l → SrAt w' b x y one two 1 1 u → K (ptr b 0) w') :
    Fc Try.prog F_spec_l06Between #[x.val, y.val, .int .i64 1] w (.one .any) K := by
  have n0 := Ix.1; have n1 := Ix.2.1
  unfold isoOf at hn hs
  refine walk_spec_l06Between _ _ _ (col_box fun b1 w1 m1 ax => col_box fun b2 w2 m2 ay => ?_)
  have q2 := m1.below.trans (m2.below.mono m1.below.size)
  have ax := ax.keep m2.below
  intro w3 hd
  have q3 := q2.trans (hd.below w.heap.size)
  have b23 := hd.below w2.heap.size
  have ax3 := ax.keep b23
  have ay3 := ay.keep b23
  refine col_all hx ax3 (col_all hy ay3 (col_all hx ax3 (col_all hy ay3 (c_spec_l06Types hx Ix fun one w4 c4 hc4 q4 o4 => ⟨q4, c_spec_l06Types hy Iy fun two w5 c5 hc5 q5 o5 => ?_⟩))))
  have q45 := q4.trans (q5.mono q4.size)
  refine ⟨q45, ?_⟩
  have hlx := typesL_len x x.n.toNat
  have hly := typesL_len y y.n.toNat
  have ny := Iy.2.1
  refine ⟨_, w5, buildSr hx hy (slI_cells (own_slI o4 (by omega))) (slI_cells (own_slI o5 (by omega))) 1 w5, q45, box _ rfl fun b w6 m6 => ?_⟩
  have q6 := q45.trans (m6.below.mono q45.size)
  refine ⟨q6, ?_⟩
  have hsr : SrAt w6 b x y one two 1 0 (.slice none 0 0) := ⟨m6.at_⟩
  have e6 := m6.here
  have q36 := q3.trans (q6.mono q3.size)
  have hz := q3.size; have hz6 := q6.size; have hz45 := q45.size
  have ax6 := ax3.keep q6
  have ay6 := ay3.keep q6
  have hb : w.heap.size ≤ b := by omega
  refine col_n ax6 (col_n ay6 ⟨fun h => ?_, fun h => col_k ax6 (col_k ay6 ⟨fun h2 => ?_, fun h2 => nilI fun b0 v0 w7 e0 q7 o7 => ?_⟩)⟩)
  · rw [if_neg (fun hh => ne_t h hh.1)] at hn
    exact hn rfl w6 b one two hb q36 hsr
  · rw [if_neg (fun hh => ne_t h2 hh.2)] at hn
    exact hn rfl w6 b one two hb q36 hsr
  have hxy := ne_f h; have hk := ne_f h2
  rw [if_pos ⟨hxy, hk⟩] at hn hs
  have q37 := q36.trans (q7.mono q36.size)
  have o46 := ((o4.keep q5).keep m6.below).keep q7
  have o56 := (o5.keep m6.below).keep q7
  have hz7 := q37.size
  refine c_spec_l06Go (first := .slice none 0 0) w.heap.size hx hy Ix Iy hxy hk x.n.toNat [] v0 0 w7 _ (by simp) hz7 (hsr.keep q7) (own_slI o46 (by omega)) (own_slI o56 (by omega)) (own_slI o7 (by simp)) (by simp) (by decide) bits_empty (fun hnone w8 q8 => ?_) (fun l hsome w8 u c m8 hc ho hs8 => ?_)
  · exact hn hnone w8 b one two hb (q37.trans (q8.mono hz7)) ((hsr.keep q7).keep q8)
  · exact hs l hsome w8 b one two u c hb (q37.trans (m8.below (by omega) (by simp; omega))) hc ho hs8

end Go.Proofs.Ytkadckhealbdaaa

/- The reading of spec_l06Orders, and its contract. No condition. -/
namespace Go.Proofs.Ytkadckhealbdaaa
open Go Go.RowKit Eng Mem
set_option linter.unusedVariables false
set_option maxRecDepth 100000
def B_spec_l06Orders_9 (begin0 : Value) (k1 : Int) (out5 : Value) (c6 : Int) (known7 : Bool) (i8 : Int) (N : (Value × Int × Value × Int) → (Bool × Int) → World → Prop) (D2 : (Value × Int × Value × Int × Bool × Unit) → World → Prop) (w : World) : Prop :=
  (QAll Try.prog (Builtin.len_ #[31] 3 #[begin0]) (.int .i64) fun (x23_6 : Int) => (((decide (i8 < x23_6)) = true → ((known7 = true → N ((begin0 : Value), k1, (out5 : Value), c6) (true, (IntKind.i64.wrap (i8 + (1 : Int)))) w) ∧ (known7 = false → (QAll Try.prog (Instr.indexAt 31 begin0 (.int .i64 i8)) .any fun (x31_7 : Value) => (QSub Try.prog (Instr.loadAt 2 x31_7) w (.int .i64) fun (x32_8 : Int) => N ((begin0 : Value), k1, (out5 : Value), c6) ((x32_8 == c6), (IntKind.i64.wrap (i8 + (1 : Int)))) w))))) ∧ ((decide (i8 < x23_6)) = false → D2 ((begin0 : Value), k1, (out5 : Value), c6, known7, ()) w)))

abbrev L_spec_l06Orders_9_e2 : List Slot := [.k .any, .k (.int .i64), .junk, .junk, .junk, .k .any, .k (.int .i64), .k .bool, .junk, .junk, .junk, .junk, .junk, .junk, .junk, .junk, .junk, .junk, .junk, .junk, .junk, .junk, .junk, .junk, .junk, .junk, .junk, .junk, .junk, .junk, .junk, .junk, .junk, .junk, .junk, .junk, .junk, .junk, .junk, .junk, .junk, .junk, .junk, .junk, .junk, .junk, .junk, .junk]

abbrev L_spec_l06Orders_9_sp : List Slot := [.k .any, .k (.int .i64), .junk, .junk, .junk, .k .any, .k (.int .i64), .k .bool, .k (.int .i64), .junk, .junk, .junk, .junk, .junk, .junk, .junk, .junk, .junk, .junk, .junk, .junk, .junk, .junk, .junk, .junk, .junk, .junk, .junk, .junk, .junk, .junk, .junk, .junk, .junk, .junk, .junk, .junk, .junk, .junk, .junk, .junk, .junk, .junk, .junk, .junk, .junk, .junk, .junk]
abbrev L_spec_l06Orders_9_ex : List (Nat × List Slot) := [(2, L_spec_l06Orders_9_e2)]
abbrev L_spec_l06Orders_9_rt : List Slot := [.junk, .junk, .junk, .junk, .junk, .junk, .junk, .junk, .junk, .junk, .junk, .junk, .junk, .junk, .junk, .junk, .junk, .junk, .junk, .junk, .junk, .junk, .junk, .junk, .junk, .junk, .junk, .junk, .junk, .junk, .junk, .junk, .junk, .junk, .junk, .junk, .junk, .junk, .junk, .junk, .junk, .junk, .junk, .junk, .junk, .junk, .junk, .junk]

def L_spec_l06Orders_9_b (Φ : Post) (u : (Value × Int × Value × Int)) (N : (Value × Int × Value × Int) → (Bool × Int) → World → Prop) (s : (Bool × Int)) (w : World) : Prop :=
  B_spec_l06Orders_9 u.1 u.2.1 u.2.2.1 u.2.2.2 s.1 s.2 N (fun v w => ∀ j : Nat → Value, Φ (.exit 2) (mkT j 0 L_spec_l06Orders_9_e2 v) w) w

theorem L_spec_l06Orders_9_eq (j : Nat → Value) (u : (Value × Int × Value × Int)) (s : (Bool × Int)) (N : (Value × Int × Value × Int) → (Bool × Int) → World → Prop) (D2 : (Value × Int × Value × Int × Bool × Unit) → World → Prop) (R : (Unit) → World → Prop) (w : World) :
    W Try.prog ty (fun _ _ _ _ => False) (loopAt Try.f84 9) (loopPost L_spec_l06Orders_9_sp [(2, (⟨L_spec_l06Orders_9_e2, D2⟩ : Door))] ⟨L_spec_l06Orders_9_rt, R⟩ (fun v w => N ((fun v => (v.1, v.2.1, v.2.2.1, v.2.2.2.1)) v) ((fun v => (v.2.2.2.2.1, v.2.2.2.2.2.1)) v) w)) (mkT j 0 L_spec_l06Orders_9_sp ((fun u s => (u.1, u.2.1, u.2.2.1, u.2.2.2, s.1, s.2, ())) u s)) w =
    B_spec_l06Orders_9 u.1 u.2.1 u.2.2.1 u.2.2.2 s.1 s.2 N D2 w := by
  kernel_rfl

def O_spec_l06Orders_1 : Code → Post → List SV → World → Prop :=
  orc 9 (loopAt Try.f84 9) L_spec_l06Orders_9_sp (fun Φ fr w => LOOP (U := (Value × Int × Value × Int)) (S := (Bool × Int)) ((fun v => (v.1, v.2.1, v.2.2.1, v.2.2.2.1)) (extT L_spec_l06Orders_9_sp fr)) (L_spec_l06Orders_9_b Φ ((fun v => (v.1, v.2.1, v.2.2.1, v.2.2.2.1)) (extT L_spec_l06Orders_9_sp fr))) ((fun v => (v.2.2.2.2.1, v.2.2.2.2.2.1)) (extT L_spec_l06Orders_9_sp fr)) w) (fun _ _ _ _ => False)

theorem O_spec_l06Orders_1_ok : Sound Try.prog O_spec_l06Orders_1 :=
  orc_ok (sound_none _) fun Φ fr w hs h => loop_ok (ty := ty) follows (sound_none _) L_spec_l06Orders_9_sp (fun v => (v.1, v.2.1, v.2.2.1, v.2.2.2.1)) (fun v => (v.2.2.2.2.1, v.2.2.2.2.2.1)) (fun u s => (u.1, u.2.1, u.2.2.1, u.2.2.2, s.1, s.2, ())) (fun _ => rfl) L_spec_l06Orders_9_ex L_spec_l06Orders_9_rt (body := L_spec_l06Orders_9_b Φ) (fun j u s w N hb => by
    have e := L_spec_l06Orders_9_eq j u s N (doorOf Φ (.exit 2) L_spec_l06Orders_9_e2).D (doorOf Φ .ret L_spec_l06Orders_9_rt).D w
    exact Eq.mpr e hb) hs h

def B_spec_l06Orders_5 (begin0 : Value) (k1 : Int) (out5 : Value) (c6 : Int) (N : (Value × Int) → (Value × Int) → World → Prop) (D0 : (Value × Unit) → World → Prop) (w : World) : Prop :=
  (((decide (c6 < k1)) = true → (At (loopAt Try.f84 9) (loopAt Try.f84 9) (LOOP (U := (Value × Int × Value × Int)) (S := (Bool × Int)) ((begin0 : Value), k1, (out5 : Value), c6) (fun N_22 s_23 w_24 => B_spec_l06Orders_9 (begin0 : Value) k1 (out5 : Value) c6 s_23.1 s_23.2 N_22 (fun (v_9 : (Value × Int × Value × Int × Bool × Unit)) w_10 => ∀ _j_11 : Nat → Value, (((!v_9.2.2.2.2.1) = true → (Fc Try.prog 90 #[v_9.1] w_10 (.one .any) fun (x40_13 : Value) w_12 => (Pr Try.prog (Instr.buildSlice 31 1 #[(0, (.int .i64 v_9.2.2.2.1))]) w_12 (.one .any) fun (x42_15 : Value) w_14 => (Pr Try.prog (Builtin.append_ #[31, 31] 31 #[x40_13, x42_15]) w_14 (.one .any) fun (x43_17 : Value) w_16 => (Fc Try.prog 84 #[x43_17, (.int .i64 v_9.2.1)] w_16 (.one .any) fun (x45_19 : Value) w_18 => (Pr Try.prog (Builtin.append_ #[68, 68] 68 #[v_9.2.2.1, x45_19]) w_18 (.one .any) fun (x46_21 : Value) w_20 => N ((v_9.1 : Value), v_9.2.1) ((x46_21 : Value), (IntKind.i64.wrap (v_9.2.2.2.1 + (1 : Int)))) w_20)))))) ∧ ((!v_9.2.2.2.2.1) = false → N ((v_9.1 : Value), v_9.2.1) ((v_9.2.2.1 : Value), (IntKind.i64.wrap (v_9.2.2.2.1 + (1 : Int)))) w_10))) w_24) (false, (0 : Int)) w))) ∧ ((decide (c6 < k1)) = false → D0 ((out5 : Value), ()) w))

abbrev L_spec_l06Orders_5_e0 : List Slot := [.junk, .junk, .junk, .junk, .junk, .k .any, .junk, .junk, .junk, .junk, .junk, .junk, .junk, .junk, .junk, .junk, .junk, .junk, .junk, .junk, .junk, .junk, .junk, .junk, .junk, .junk, .junk, .junk, .junk, .junk, .junk, .junk, .junk, .junk, .junk, .junk, .junk, .junk, .junk, .junk, .junk, .junk, .junk, .junk, .junk, .junk, .junk, .junk]

abbrev L_spec_l06Orders_5_sp : List Slot := [.k .any, .k (.int .i64), .junk, .junk, .junk, .k .any, .k (.int .i64), .junk, .junk, .junk, .junk, .junk, .junk, .junk, .junk, .junk, .junk, .junk, .junk, .junk, .junk, .junk, .junk, .junk, .junk, .junk, .junk, .junk, .junk, .junk, .junk, .junk, .junk, .junk, .junk, .junk, .junk, .junk, .junk, .junk, .junk, .junk, .junk, .junk, .junk, .junk, .junk, .junk]
abbrev L_spec_l06Orders_5_ex : List (Nat × List Slot) := [(0, L_spec_l06Orders_5_e0)]
abbrev L_spec_l06Orders_5_rt : List Slot := [.junk, .junk, .junk, .junk, .junk, .junk, .junk, .junk, .junk, .junk, .junk, .junk, .junk, .junk, .junk, .junk, .junk, .junk, .junk, .junk, .junk, .junk, .junk, .junk, .junk, .junk, .junk, .junk, .junk, .junk, .junk, .junk, .junk, .junk, .junk, .junk, .junk, .junk, .junk, .junk, .junk, .junk, .junk, .junk, .junk, .junk, .junk, .junk]

def L_spec_l06Orders_5_b (Φ : Post) (u : (Value × Int)) (N : (Value × Int) → (Value × Int) → World → Prop) (s : (Value × Int)) (w : World) : Prop :=
  B_spec_l06Orders_5 u.1 u.2 s.1 s.2 N (fun v w => ∀ j : Nat → Value, Φ (.exit 0) (mkT j 0 L_spec_l06Orders_5_e0 v) w) w

theorem L_spec_l06Orders_5_eq (j : Nat → Value) (u : (Value × Int)) (s : (Value × Int)) (N : (Value × Int) → (Value × Int) → World → Prop) (D0 : (Value × Unit) → World → Prop) (R : (Unit) → World → Prop) (w : World) :
    W Try.prog ty O_spec_l06Orders_1 (loopAt Try.f84 5) (loopPost L_spec_l06Orders_5_sp [(0, (⟨L_spec_l06Orders_5_e0, D0⟩ : Door))] ⟨L_spec_l06Orders_5_rt, R⟩ (fun v w => N ((fun v => (v.1, v.2.1)) v) ((fun v => (v.2.2.1, v.2.2.2.1)) v) w)) (mkT j 0 L_spec_l06Orders_5_sp ((fun u s => (u.1, u.2, s.1, s.2, ())) u s)) w =
    B_spec_l06Orders_5 u.1 u.2 s.1 s.2 N D0 w := by
  kernel_rfl

def O_spec_l06Orders_2 : Code → Post → List SV → World → Prop :=
  orc 5 (loopAt Try.f84 5) L_spec_l06Orders_5_sp (fun Φ fr w => LOOP (U := (Value × Int)) (S := (Value × Int)) ((fun v => (v.1, v.2.1)) (extT L_spec_l06Orders_5_sp fr)) (L_spec_l06Orders_5_b Φ ((fun v => (v.1, v.2.1)) (extT L_spec_l06Orders_5_sp fr))) ((fun v => (v.2.2.1, v.2.2.2.1)) (extT L_spec_l06Orders_5_sp fr)) w) O_spec_l06Orders_1

theorem O_spec_l06Orders_2_ok : Sound Try.prog O_spec_l06Orders_2 :=
  orc_ok O_spec_l06Orders_1_ok fun Φ fr w hs h => loop_ok (ty := ty) follows O_spec_l06Orders_1_ok L_spec_l06Orders_5_sp (fun v => (v.1, v.2.1)) (fun v => (v.2.2.1, v.2.2.2.1)) (fun u s => (u.1, u.2, s.1, s.2, ())) (fun _ => rfl) L_spec_l06Orders_5_ex L_spec_l06Orders_5_rt (body := L_spec_l06Orders_5_b Φ) (fun j u s w N hb => by
    have e := L_spec_l06Orders_5_eq j u s N (doorOf Φ (.exit 0) L_spec_l06Orders_5_e0).D (doorOf Φ .ret L_spec_l06Orders_5_rt).D w
    exact Eq.mpr e hb) hs h

def V_spec_l06Orders (begin0 : Value) (k1 : Int) (w : World) (K : Value → World → Prop) : Prop :=
  (QAll Try.prog (Builtin.len_ #[31] 3 #[begin0]) (.int .i64) fun (x10_1 : Int) => (((x10_1 == k1) = true → (Pr Try.prog (Instr.buildSlice 68 1 #[(0, begin0)]) w (.one .any) fun (x14_3 : Value) w_2 => K (x14_3 : Value) w_2)) ∧ ((x10_1 == k1) = false → (Pr Try.prog (Instr.buildSlice 68 0 #[]) w (.one .any) fun (x15_5 : Value) w_4 => (At (loopAt Try.f84 5) (loopAt Try.f84 5) (LOOP (U := (Value × Int)) (S := (Value × Int)) ((begin0 : Value), k1) (fun N_28 s_29 w_30 => B_spec_l06Orders_5 (begin0 : Value) k1 s_29.1 s_29.2 N_28 (fun (v_25 : (Value × Unit)) w_26 => ∀ _j_27 : Nat → Value, K (v_25.1 : Value) w_26) w_30) ((x15_5 : Value), (0 : Int)) w_4))))))

theorem eq_spec_l06Orders (begin0 : Value) (k1 : Int) (w : World) (K : Value → World → Prop) :
    W Try.prog ty O_spec_l06Orders_2 (bodyOf Try.f84) (fnPost Try.prog Try.f84.results.toList (.one .any) K) (frame0 [begin0, (.int .i64 k1)] 48) w = V_spec_l06Orders begin0 k1 w K := by
  kernel_rfl

theorem body_spec_l06Orders : Try.f84.body = some (bodyOf Try.f84) := by kernel_rfl
theorem name_spec_l06Orders : (Try.f84.name == "runtime.NumGoroutine") = false := by kernel_rfl

theorem walk_spec_l06Orders (begin0 : Value) (k1 : Int) {w : World} {K : Value → World → Prop} (h : V_spec_l06Orders begin0 k1 w K) : Fc Try.prog 84 #[begin0, (.int .i64 k1)] w (.one .any) K :=
  fn_ok follows O_spec_l06Orders_2_ok Try.func84 name_spec_l06Orders body_spec_l06Orders Try.ntmps84 [begin0, (.int .i64 k1)] (Eq.mpr (eq_spec_l06Orders begin0 k1 w K) h)

-- uses S9Ords
theorem c_spec_l06Orders {n : Nat} (hn : 1 ≤ n) (hn7 : n ≤ 7) : ∀ (f : Nat) (l : List Int) (v : Value) (B : Nat) (w : World) (K : Value → World → Prop), l.length + f = n → B ≤ w.heap.size → MyI B w.heap.size w v l →
    (∀ u w' b, w.heap.size ≤ b → Below w.heap.size w w' → MySS B b w' u (ordF n f l) → K u w') → Fc Try.prog F_spec_l06Orders #[v, .int .i64 (n : Int)] w (.one .any) K
  | f, l, v, B, w, K, hlen, hB, hv, hK => by
    refine walk_spec_l06Orders _ _ (lenI hv.sl ⟨fun he => ?_, fun hne => ?_⟩)
    · have he := eq_t he
      have hf : f = 0 := by omega
      subst hf
      rcases hv with ⟨_, ⟨_, rfl⟩ | ⟨c, hc, _, ho⟩⟩
      · simp at hlen; omega
      · exact oneSS ho hc fun u w' b hb q h => hK u w' b hb q h
    · have hne := eq_f hne
      match f, hlen, hK with
      | 0, hlen, _ => omega
      | f + 1, hlen, hK =>
        have hpow : n ^ f ≤ 7 ^ 7 := Nat.le_trans (Nat.pow_le_pow_left hn7 f) (Nat.pow_le_pow_right (by omega) (by omega))
        refine nilSS fun b0 v0 w1 hb0 q1 _ h0 => ?_
        rw [ordF_succ] at hK
        refine lp (fun s w' => Below w.heap.size w w' ∧ ∃ (i b : Nat), s.2 = i ∧ i ≤ n ∧ w.heap.size ≤ b ∧ MySS B b w' s.1 (ordR n f l i)) (fun s _ => (17 - s.2).toNat) ⟨q1, 0, b0, rfl, by omega, hb0, h0.mono (by omega)⟩ ?_
        rintro ⟨u, t⟩ w2 N ⟨q2, i, b, hi, hin, hb, hu⟩ hN
        simp only at hi hu
        subst hi
        unfold B_spec_l06Orders_5
        dsimp only
        have hs2 := q2.size
        have hv2 := (hv.keep q2).mono (Nat.le_refl _) hs2
        have hrl := ordR_len n f l i
        refine ⟨fun hlt => ?_, fun hge => ?_⟩
        · have hlt := dec_t hlt
          refine lp (fun s w' => w' = w2 ∧ ∃ k : Nat, s.2 = k ∧ k ≤ l.length ∧ s.1 = (l.take k).contains (i : Int)) (fun s _ => (l.length - s.2).toNat) ⟨rfl, 0, rfl, by omega, by simp⟩ ?_
          rintro ⟨kn, t'⟩ w2' N' ⟨rfl, k, hk, hkl, hkn⟩ hN'
          simp only at hk hkn
          subst hk; subst hkn
          unfold B_spec_l06Orders_9
          dsimp only
          refine lenI hv2.sl ⟨fun hlt2 => ?_, fun hge2 => ?_⟩
          · have hlt2 := dec_t hlt2
            have hkl : k < l.length := by omega
            have htk : l.take (k + 1) = l.take k ++ [l.getD k 0] := by rw [List.take_succ_eq_append_getElem hkl]; simp [hkl]
            refine ⟨fun hyes => ?_, fun hno => atI hv2.sl (by omega) (by omega) ?_⟩
            · rw [wrap_small (by omega) (by omega)]
              refine hN' _ _ ⟨rfl, k + 1, by simp only; omega, by omega, ?_⟩ (by simp only; omega)
              simp only [htk]
              rw [List.contains_iff_mem] at hyes
              symm
              rw [List.contains_iff_mem, List.mem_append]
              exact .inl hyes
            · rw [wrap_small (by omega) (by omega), Int.toNat_natCast]
              refine hN' _ _ ⟨rfl, k + 1, by simp only; omega, by omega, ?_⟩ (by simp only; omega)
              simp only [htk]
              have hno : (i : Int) ∉ l.take k := fun h => by rw [← List.contains_iff_mem] at h; rw [h] at hno; cases hno
              rw [Bool.eq_iff_iff, beq_iff_eq, List.contains_iff_mem, List.mem_append, List.mem_singleton]
              exact ⟨fun h => .inr h.symm, fun h => h.elim (fun h => absurd h hno) Eq.symm⟩
          · have hge2 := dec_f hge2
            have : k = l.length := by omega
            subst this
            rw [List.take_length]
            intro _
            try dsimp only
            refine ⟨fun hno => ?_, fun hyes => ?_⟩
            · have hno : (i : Int) ∉ l := by simpa using not_t hno
              refine c_spec_l01Own hv2.sl (by omega) fun w3 x c hc q3 hx => ?_
              have hs3 := q3.size
              refine appI hx (by omega) fun x' w4 c' hx' m4 hc' => ?_
              have q24 : Below w2'.heap.size w2' w4 := q3.trans (m4.below (by omega) (by simp; omega))
              have hs4 := q24.size
              have hlt4 := hx'.lt
              refine c_spec_l06Orders hn hn7 f (l ++ [(i : Int)]) x' B w4 _ (by simp; omega) (by omega) (own_my hx' (by simp; omega) (by omega) hlt4) fun y w5 b5 hb5 q5 hy => ?_
              have q25 := q24.trans (q5.mono hs4)
              have hyl := ordF_len n f (l ++ [(i : Int)])
              have hil : i * n ^ f ≤ 7 * 7 ^ 7 := Nat.mul_le_mul (by omega) hpow
              refine appsSS (hu.keep q25) hy (by omega) fun u' w6 b6 hu' m6 hb6 => ?_
              have hs5 := q25.size
              rw [wrap_small (by omega) (by omega)]
              refine hN _ _ ⟨(q2.trans (q25.mono hs2)).trans (m6.below (by omega) (by simp; omega)), i + 1, b6, by simp only; omega, by omega, by omega, ?_⟩ (by simp only; omega)
              rw [ordR_go hno]
              exact hu'
            · have hyes : (i : Int) ∈ l := by simpa using not_f hyes
              rw [wrap_small (by omega) (by omega)]
              refine hN _ _ ⟨q2, i + 1, b, by simp only; omega, by omega, hb, ?_⟩ (by simp only; omega)
              rw [ordR_skip hyes]
              exact hu
        · have hge := dec_f hge
          have : i = n := by omega
          subst this
          intro _
          exact hK u w2 b hb q2 hu

end Go.Proofs.Ytkadckhealbdaaa

/- The reading of spec_FindAlike, and its contract. No condition. -/
namespace Go.Proofs.Ytkadckhealbdaaa
open Go Go.RowKit Eng Mem
set_option linter.unusedVariables false
set_option maxRecDepth 100000
def B_spec_FindAlike_5 (x2 : Value) (y3 : Value) (orders7 : Value) (i8 : Int) (N : (Value × Value × Value) → Int → World → Prop) (D0 : (Unit) → World → Prop) (R : (Value × Value × Int × Unit) → World → Prop) (w : World) : Prop :=
  (QAll Try.prog (Builtin.len_ #[68] 3 #[orders7]) (.int .i64) fun (x24_17 : Int) => (((decide (i8 < x24_17)) = true → (∀ w_18, Drew w w_18 → (QSub Try.prog (Instr.loadAt 25 x2) w_18 .any fun (x28_19 : Value) => (QAll Try.prog (Instr.indexAt 68 orders7 (.int .i64 i8)) .any fun (x31_20 : Value) => (QSub Try.prog (Instr.loadAt 31 x31_20) w_18 .any fun (x32_21 : Value) => (QSub Try.prog (Instr.loadAt 25 y3) w_18 .any fun (x34_22 : Value) => (Fc Try.prog 44 #[x28_19, x32_21] w_18 (.one .any) fun (x33_24 : Value) w_23 => (Keeps w_18 w_23 ((Fc Try.prog 66 #[x33_24, x34_22, (.int .i64 (1 : Int))] w_23 (.one .any) fun (x35_26 : Value) w_25 => (Keeps w_18 w_25 ((NilOk x35_26 ∧ (QAll Try.prog (Instr.fieldAt 73 x35_26 5) .any fun (x38_27 : Value) => (QSub Try.prog (Instr.loadAt 2 x38_27) w_25 (.int .i64) fun (x39_28 : Int) => (((decide (x39_28 > (0 : Int))) = true → (∀ w_29, Drew w_25 w_29 → (QAll Try.prog (Instr.indexAt 68 orders7 (.int .i64 i8)) .any fun (x43_30 : Value) => (QSub Try.prog (Instr.loadAt 31 x43_30) w_29 .any fun (x44_31 : Value) => (NilOk x35_26 ∧ (QAll Try.prog (Instr.fieldAt 73 x35_26 6) .any fun (x47_32 : Value) => (QSub Try.prog (Instr.loadAt 31 x47_32) w_29 .any fun (x48_33 : Value) => R ((x44_31 : Value), (x48_33 : Value), (0 : Int), ()) w_29))))))) ∧ ((decide (x39_28 > (0 : Int))) = false → N ((x2 : Value), (y3 : Value), (orders7 : Value)) (IntKind.i64.wrap (i8 + (1 : Int))) w_25))))))))))))))))) ∧ ((decide (i8 < x24_17)) = false → D0 () w)))

abbrev L_spec_FindAlike_5_e0 : List Slot := [.junk, .junk, .junk, .junk, .junk, .junk, .junk, .junk, .junk, .junk, .junk, .junk, .junk, .junk, .junk, .junk, .junk, .junk, .junk, .junk, .junk, .junk, .junk, .junk, .junk, .junk, .junk, .junk, .junk, .junk, .junk, .junk, .junk, .junk, .junk, .junk, .junk, .junk, .junk, .junk, .junk, .junk, .junk, .junk, .junk, .junk, .junk, .junk, .junk]

abbrev L_spec_FindAlike_5_sp : List Slot := [.junk, .junk, .k .any, .k .any, .junk, .junk, .junk, .k .any, .k (.int .i64), .junk, .junk, .junk, .junk, .junk, .junk, .junk, .junk, .junk, .junk, .junk, .junk, .junk, .junk, .junk, .junk, .junk, .junk, .junk, .junk, .junk, .junk, .junk, .junk, .junk, .junk, .junk, .junk, .junk, .junk, .junk, .junk, .junk, .junk, .junk, .junk, .junk, .junk, .junk, .junk]
abbrev L_spec_FindAlike_5_ex : List (Nat × List Slot) := [(0, L_spec_FindAlike_5_e0)]
abbrev L_spec_FindAlike_5_rt : List Slot := [.junk, .junk, .junk, .junk, .k .any, .k .any, .k (.int .i64), .junk, .junk, .junk, .junk, .junk, .junk, .junk, .junk, .junk, .junk, .junk, .junk, .junk, .junk, .junk, .junk, .junk, .junk, .junk, .junk, .junk, .junk, .junk, .junk, .junk, .junk, .junk, .junk, .junk, .junk, .junk, .junk, .junk, .junk, .junk, .junk, .junk, .junk, .junk, .junk, .junk, .junk]

def L_spec_FindAlike_5_b (Φ : Post) (u : (Value × Value × Value)) (N : (Value × Value × Value) → Int → World → Prop) (s : Int) (w : World) : Prop :=
  B_spec_FindAlike_5 u.1 u.2.1 u.2.2 s N (fun v w => ∀ j : Nat → Value, Φ (.exit 0) (mkT j 0 L_spec_FindAlike_5_e0 v) w) (fun v w => ∀ j : Nat → Value, Φ .ret (mkT j 0 L_spec_FindAlike_5_rt v) w) w

theorem L_spec_FindAlike_5_eq (j : Nat → Value) (u : (Value × Value × Value)) (s : Int) (N : (Value × Value × Value) → Int → World → Prop) (D0 : (Unit) → World → Prop) (R : (Value × Value × Int × Unit) → World → Prop) (w : World) :
    W Try.prog ty (fun _ _ _ _ => False) (loopAt Try.f40 5) (loopPost L_spec_FindAlike_5_sp [(0, (⟨L_spec_FindAlike_5_e0, D0⟩ : Door))] ⟨L_spec_FindAlike_5_rt, R⟩ (fun v w => N ((fun v => (v.1, v.2.1, v.2.2.1)) v) ((fun v => v.2.2.2.1) v) w)) (mkT j 0 L_spec_FindAlike_5_sp ((fun u s => (u.1, u.2.1, u.2.2, s, ())) u s)) w =
    B_spec_FindAlike_5 u.1 u.2.1 u.2.2 s N D0 R w := by
  kernel_rfl

def O_spec_FindAlike_1 : Code → Post → List SV → World → Prop :=
  orc 5 (loopAt Try.f40 5) L_spec_FindAlike_5_sp (fun Φ fr w => LOOP (U := (Value × Value × Value)) (S := Int) ((fun v => (v.1, v.2.1, v.2.2.1)) (extT L_spec_FindAlike_5_sp fr)) (L_spec_FindAlike_5_b Φ ((fun v => (v.1, v.2.1, v.2.2.1)) (extT L_spec_FindAlike_5_sp fr))) ((fun v => v.2.2.2.1) (extT L_spec_FindAlike_5_sp fr)) w) (fun _ _ _ _ => False)

theorem O_spec_FindAlike_1_ok : Sound Try.prog O_spec_FindAlike_1 :=
  orc_ok (sound_none _) fun Φ fr w hs h => loop_ok (ty := ty) follows (sound_none _) L_spec_FindAlike_5_sp (fun v => (v.1, v.2.1, v.2.2.1)) (fun v => v.2.2.2.1) (fun u s => (u.1, u.2.1, u.2.2, s, ())) (fun _ => rfl) L_spec_FindAlike_5_ex L_spec_FindAlike_5_rt (body := L_spec_FindAlike_5_b Φ) (fun j u s w N hb => by
    have e := L_spec_FindAlike_5_eq j u s N (doorOf Φ (.exit 0) L_spec_FindAlike_5_e0).D (doorOf Φ .ret L_spec_FindAlike_5_rt).D w
    exact Eq.mpr e hb) hs h

def V_spec_FindAlike (x0 : Value) (y1 : Value) (w : World) (K : (Value × Value × Int) → World → Prop) : Prop :=
  (Pr Try.prog (Instr.box 25 x0) w (.one .any) fun (x2_2 : Value) w_1 => (Pr Try.prog (Instr.box 25 y1) w_1 (.one .any) fun (y3_4 : Value) w_3 => (QSub Try.prog (Instr.loadAt 25 x2_2) w_3 .any fun (x10_5 : Value) => (Fc Try.prog 65 #[x10_5] w_3 (.one .bool) fun (x11_7 : Bool) w_6 => (((!x11_7) = true → K (((.slice none 0 0) : Value), ((.slice none 0 0) : Value), (1 : Int)) w_6) ∧ ((!x11_7) = false → (QSub Try.prog (Instr.loadAt 25 y3_4) w_6 .any fun (x14_8 : Value) => (Fc Try.prog 65 #[x14_8] w_6 (.one .bool) fun (x15_10 : Bool) w_9 => (((!x15_10) = true → K (((.slice none 0 0) : Value), ((.slice none 0 0) : Value), (1 : Int)) w_9) ∧ ((!x15_10) = false → (Pr Try.prog (Instr.buildSlice 31 0 #[]) w_9 (.one .any) fun (x18_12 : Value) w_11 => (QAll Try.prog (Instr.fieldAt 25 x2_2 1) .any fun (x19_13 : Value) => (QSub Try.prog (Instr.loadAt 2 x19_13) w_11 (.int .i64) fun (x20_14 : Int) => (Fc Try.prog 84 #[x18_12, (.int .i64 x20_14)] w_11 (.one .any) fun (x21_16 : Value) w_15 => (At (loopAt Try.f40 5) (loopAt Try.f40 5) (LOOP (U := (Value × Value × Value)) (S := Int) ((x2_2 : Value), (y3_4 : Value), (x21_16 : Value)) (fun N_40 s_41 w_42 => B_spec_FindAlike_5 (x2_2 : Value) (y3_4 : Value) (x21_16 : Value) s_41 N_40 (fun (v_34 : (Unit)) w_35 => ∀ _j_36 : Nat → Value, K (((.slice none 0 0) : Value), ((.slice none 0 0) : Value), (4 : Int)) w_35) (fun (v_37 : (Value × Value × Int × Unit)) w_38 => ∀ _j_39 : Nat → Value, K ((v_37.1 : Value), (v_37.2.1 : Value), v_37.2.2.1) w_38) w_42) (0 : Int) w_15))))))))))))))))

theorem eq_spec_FindAlike (x0 : Value) (y1 : Value) (w : World) (K : (Value × Value × Int) → World → Prop) :
    W Try.prog ty O_spec_FindAlike_1 (bodyOf Try.f40) (fnPost Try.prog Try.f40.results.toList (.three .any .any (.int .i64)) K) (frame0 [x0, y1] 49) w = V_spec_FindAlike x0 y1 w K := by
  kernel_rfl

theorem body_spec_FindAlike : Try.f40.body = some (bodyOf Try.f40) := by kernel_rfl
theorem name_spec_FindAlike : (Try.f40.name == "runtime.NumGoroutine") = false := by kernel_rfl

theorem walk_spec_FindAlike (x0 : Value) (y1 : Value) {w : World} {K : (Value × Value × Int) → World → Prop} (h : V_spec_FindAlike x0 y1 w K) : Fc Try.prog 40 #[x0, y1] w (.three .any .any (.int .i64)) K :=
  fn_ok follows O_spec_FindAlike_1_ok Try.func40 name_spec_FindAlike body_spec_FindAlike Try.ntmps40 [x0, y1] (Eq.mpr (eq_spec_FindAlike x0 y1 w K) h)

-- uses S9Alk
theorem c_spec_FindAlike {x y : Col} {w : World} {K : Value × Value × Int → World → Prop} (hx : x.Ok) (hy : y.Ok)
    (hK : ∀ w' u v M, Below w.heap.size w w' → w.heap.size ≤ M → M ≤ w'.heap.size → MyI w.heap.size M w' u (alikeF x y).1 → MyI M w'.heap.size w' v (alikeF x y).2.1 → K (u, v, (alikeF x y).2.2) w') : Fc Try.prog F_spec_FindAlike #[x.val, y.val] w (.three .any .any (.int .i64)) K := by
  unfold alikeF at hK
  refine walk_spec_FindAlike _ _ (col_box fun b1 w1 m1 ax => col_box fun b2 w2 m2 ay => ?_)
  have q2 := m1.below.trans (m2.below.mono m1.below.size)
  have ax := ax.keep m2.below
  refine col_all hx ax (c_spec_l01Is hx fun w3 q3 => ⟨fun h => ?_, fun h => col_all hy (ay.keep q3) (c_spec_l01Is hy fun w4 q4 => ⟨fun h2 => ?_, fun h2 => ?_⟩)⟩)
  · rw [if_neg (fun hh => notd_t h hh.1)] at hK
    have q := q2.trans (q3.mono q2.size)
    exact hK w3 _ _ w.heap.size q (Nat.le_refl _) q.size (myI_nil _ _ _) (myI_nil _ _ _)
  · rw [if_neg (fun hh => notd_t h2 hh.2)] at hK
    have q := (q2.trans (q3.mono q2.size)).trans (q4.mono (by have := q2.size; have := q3.size; omega))
    exact hK w4 _ _ w.heap.size q (Nat.le_refl _) q.size (myI_nil _ _ _) (myI_nil _ _ _)
  have Ix := notd_f h; have Iy := notd_f h2
  rw [if_pos ⟨Ix, Iy⟩] at hK
  have q4' := (q2.trans (q3.mono q2.size)).trans (q4.mono (by have := q2.size; have := q3.size; omega))
  have hs := q4'.size
  have k4 := Ix.2.2.2.1; have k0 := Ix.2.2.1; have n1 := Ix.2.1
  have ax4 := (ax.keep q3).keep q4
  have ay4 := (ay.keep q3).keep q4
  unfold alikeO at hK
  refine nilI fun b0 v0 w5 e0 q5 o0 => col_k (ax4.keep q5) ?_
  have ho := fun K' => c_spec_l06Orders (n := x.k.toNat) (by omega) (by omega) x.k.toNat [] v0 w4.heap.size w5 K' (by simp) q5.size (own_my o0 (by simp) (by omega) o0.lt)
  rw [show ((x.k.toNat : Nat) : Int) = x.k from by omega] at ho
  refine ho _ fun o w6 b hb q6 hu => ?_
  obtain ⟨L, hL⟩ : ∃ L, ordF x.k.toNat x.k.toNat [] = L := ⟨_, rfl⟩
  have hLm : ∀ r ∈ L, PermL r x.k := fun r hr => by
    have := ordF_perm (n := x.k.toNat) (r := r) (by rw [hL]; exact hr)
    rwa [show ((x.k.toNat : Nat) : Int) = x.k from by omega] at this
  have hLl := ordF_len x.k.toNat x.k.toNat []
  have hpow : x.k.toNat ^ x.k.toNat ≤ 4 ^ 4 := Nat.le_trans (Nat.pow_le_pow_left (by omega) _) (Nat.pow_le_pow_right (by omega) (by omega))
  rw [hL] at hK hu hLl
  have q46 : Below w4.heap.size w4 w6 := q5.trans (q6.mono q5.size)
  have ax6 := ax4.keep q46
  have ay6 := ay4.keep q46
  have q06 := q4'.trans (q46.mono hs)
  have hz6 := q06.size; have hz46 := q46.size
  refine lp (fun s w' => ∃ i : Nat, s = i ∧ i ≤ L.length ∧ Below w6.heap.size w6 w' ∧ alikeR x y L i = alikeR x y L 0) (fun s _ => (L.length - s).toNat) ⟨0, rfl, by omega, Below.refl _ _, rfl⟩ ?_
  rintro t w7 N ⟨i, hi, hiL, q7, hR⟩ hN
  subst hi
  unfold B_spec_FindAlike_5
  refine (hu.keep q7).len_eq ⟨fun hlt => ?_, fun hge => ?_⟩
  · have hlt := dec_t hlt
    intro w8 hd8
    have q8 := q7.trans (hd8.below w6.heap.size)
    have hu8 := hu.keep q8
    refine col_all hx (ax6.keep q8) (atSS hu8 (by omega) hlt fun r cr hcr hr => col_all hy (ay6.keep q8) ?_)
    rw [Int.toNat_natCast] at hr
    have hmem : L.getD i [] ∈ L := by
      have : i < L.length := by omega
      have e : L.getD i [] = L[i] := by simp [List.getD, this]
      rw [e]; exact List.getElem_mem this
    have hperm := hLm _ hmem
    have hpl := hperm.len
    have hskip := alikeR_skip (x := x) (y := y) (L := L) (i := i) (by omega)
    have hgo := fun p => alikeR_go (x := x) (y := y) (L := L) (i := i) (p := p) (by omega)
    have hqb := qF_bd hperm
    refine c_spec_l01Turned hx Ix (own_slI hr (by omega)) (by omega) (fun e e0 e1 => by have := hqb e e0 e1; unfold qF at this; omega) fun w9 q9 => ⟨q9, ?_⟩
    have hfun : (recF x x.k fun e => (L.getD i []).getD e.toNat 0) = recF x x.k (qF (L.getD i [])) := rfl
    rw [hfun]
    have hok := recq_ok Ix hx hperm
    have his := recF_is Ix hx hqb
    have nn : ∀ b, NilOk (ptr b 0) := fun b => .inl ⟨_, rfl⟩
    refine c_spec_l06Between hok hy his Iy (fun hnone w10 bs one two hbs q10 hsr => ?_) (fun p hsome w10 bs one two u c hbs q10 hc hou hsr => ?_)
    · have q810 := q9.trans (q10.mono q9.size)
      refine ⟨q810, nn bs, fldp sr5 (ld (k := .int .i64) yI (hsr.tail hok hy 3 rfl) ⟨fun h => absurd (dec_t h) (by omega), fun _ => ?_⟩)⟩
      rw [wrap_small (by omega) (by omega)]
      exact hN _ _ ⟨i + 1, by omega, by omega, q8.trans (q810.mono q8.size), by rw [← hR]; exact (hskip hnone).symm⟩ (by omega)
    · have q810 := q9.trans (q10.mono q9.size)
      refine ⟨q810, nn bs, fldp sr5 (ld (k := .int .i64) yI (hsr.tail hok hy 3 rfl) ⟨fun _ => ?_, fun h => absurd (by omega) (dec_f h)⟩)⟩
      intro w11 hd11
      have b1011 := hd11.below w10.heap.size
      have q811 := q810.trans (hd11.below w8.heap.size)
      have q611 := q8.trans (q811.mono q8.size)
      refine atSS' hu q611 (by omega) hlt fun r' cr' hcr' hr6 => ?_
      rw [Int.toNat_natCast] at hr6
      have hr' := hr6.keep q611
      have hsr11 := hsr.keep b1011
      refine ⟨nn bs, fldp sr6 (ld (k := .any) y1SI (hsr11.tail hok hy 4 rfl) ?_)⟩
      intro _
      have hlen := iso_len hsome
      have hnn : (recF x x.k (qF (L.getD i []))).n = x.n := rfl
      rw [hnn] at hlen
      have hz9 := q9.size; have hz8 := q8.size
      have q011 := q06.trans (q611.mono hz6)
      have hcrb : cr' < w6.heap.size := hr6.lt
      rw [show alikeR x y L 0 = some (L.getD i [], p) from by rw [← hR]; exact hgo p hsome] at hK
      exact hK w11 r' u w6.heap.size q011 hz6 q611.size (own_my hr' (by show (L.getD i []).length ≤ 1099511627776; omega) (by omega) hcrb) (own_my (hou.keep b1011) (by show p.length ≤ 1099511627776; omega) (by omega) (hou.keep b1011).lt)
  · have hge := dec_f hge
    have : i = L.length := by omega
    subst this
    intro _
    rw [show alikeR x y L 0 = none from by rw [← hR, alikeR_end]] at hK
    exact hK w7 _ _ w.heap.size (q06.trans (q7.mono hz6)) (Nat.le_refl _) (q06.trans (q7.mono hz6)).size (myI_nil _ _ _) (myI_nil _ _ _)

end Go.Proofs.Ytkadckhealbdaaa

/- The reading of laws_FnExactFindAlike, and its contract. No condition. -/
namespace Go.Proofs.Ytkadckhealbdaaa
open Go Go.RowKit Eng Mem
set_option linter.unusedVariables false
set_option maxRecDepth 100000
def V_laws_FnExactFindAlike (aX0 : Value) (aY1 : Value) (w : World) (K : Bool → World → Prop) : Prop :=
  (Pr Try.prog (Instr.box 24 aX0) w (.one .any) fun (aX2_2 : Value) w_1 => (Pr Try.prog (Instr.box 24 aY1) w_1 (.one .any) fun (aY3_4 : Value) w_3 => (∀ w_5, Drew w_3 w_5 → (QSub Try.prog (Instr.loadAt 24 aX2_2) w_5 .any fun (x17_6 : Value) => (QSub Try.prog (Instr.loadAt 24 aY3_4) w_5 .any fun (x19_7 : Value) => (Fc Try.prog 15 #[x17_6] w_5 (.one .any) fun (x18_9 : Value) w_8 => (Keeps w_5 w_8 ((Fc Try.prog 15 #[x19_7] w_8 (.one .any) fun (x20_11 : Value) w_10 => (Keeps w_5 w_10 ((Fc Try.prog 40 #[x18_9, x20_11] w_10 (.three .any .any (.int .i64)) fun (x21_13 : Value × Value × Int) w_12 => (Keeps w_5 w_12 ((∀ w_14, Drew w_12 w_14 → (QSub Try.prog (Instr.loadAt 24 aX2_2) w_14 .any fun (x26_15 : Value) => (QSub Try.prog (Instr.loadAt 24 aY3_4) w_14 .any fun (x28_16 : Value) => (Fc Try.prog 15 #[x26_15] w_14 (.one .any) fun (x27_18 : Value) w_17 => (Keeps w_14 w_17 ((Fc Try.prog 15 #[x28_16] w_17 (.one .any) fun (x29_20 : Value) w_19 => (Keeps w_14 w_19 ((Fc Try.prog 41 #[x27_18, x29_20] w_19 (.three .any .any (.int .i64)) fun (x30_22 : Value × Value × Int) w_21 => (Keeps w_14 w_21 ((Fc Try.prog 20 #[x30_22.1, x21_13.1] w_21 (.one .bool) fun (x36_24 : Bool) w_23 => (((!x36_24) = true → K false w_23) ∧ ((!x36_24) = false → (Fc Try.prog 20 #[x30_22.2.1, x21_13.2.1] w_23 (.one .bool) fun (x41_26 : Bool) w_25 => (((!x41_26) = true → K false w_25) ∧ ((!x41_26) = false → (((x30_22.2.2 != x21_13.2.2) = true → K false w_25) ∧ ((x30_22.2.2 != x21_13.2.2) = false → (Fc Try.prog 21 #[x30_22.1, (.int .i64 (1 : Int))] w_25 (.one (.int .i64)) fun (x51_28 : Int) w_27 => (Fc Try.prog 21 #[x30_22.2.1, (.int .i64 x51_28)] w_27 (.one (.int .i64)) fun (x54_30 : Int) w_29 => (Fc Try.prog 22 #[x30_22.1, (.int .i64 (1 : Int))] w_29 (.one (.int .i64)) fun (x57_32 : Int) w_31 => (((decide (x57_32 < (0 : Int))) = true → K false w_31) ∧ ((decide (x57_32 < (0 : Int))) = false → (Fc Try.prog 22 #[x30_22.2.1, (.int .i64 x57_32)] w_31 (.one (.int .i64)) fun (x62_34 : Int) w_33 => (((decide (x62_34 < (0 : Int))) = true → K false w_33) ∧ ((decide (x62_34 < (0 : Int))) = false → (((x62_34 != x54_30) = true → K false w_33) ∧ ((x62_34 != x54_30) = false → (∀ w_35, Drew w_33 w_35 → (QSub Try.prog (Instr.loadAt 24 aX2_2) w_35 .any fun (x69_36 : Value) => (QSub Try.prog (Instr.loadAt 24 aY3_4) w_35 .any fun (x71_37 : Value) => (Fc Try.prog 15 #[x69_36] w_35 (.one .any) fun (x70_39 : Value) w_38 => (Keeps w_35 w_38 ((Fc Try.prog 15 #[x71_37] w_38 (.one .any) fun (x72_41 : Value) w_40 => (Keeps w_35 w_40 ((Fc Try.prog 41 #[x70_39, x72_41] w_40 (.three .any .any (.int .i64)) fun (x73_43 : Value × Value × Int) w_42 => (Keeps w_35 w_42 ((Fc Try.prog 20 #[x73_43.1, x21_13.1] w_42 (.one .bool) fun (x79_45 : Bool) w_44 => (((!x79_45) = true → K false w_44) ∧ ((!x79_45) = false → (Fc Try.prog 20 #[x73_43.2.1, x21_13.2.1] w_44 (.one .bool) fun (x84_47 : Bool) w_46 => (((!x84_47) = true → K false w_46) ∧ ((!x84_47) = false → (((x73_43.2.2 != x21_13.2.2) = true → K false w_46) ∧ ((x73_43.2.2 != x21_13.2.2) = false → (Fc Try.prog 22 #[x30_22.1, (.int .i64 (1 : Int))] w_46 (.one (.int .i64)) fun (x94_49 : Int) w_48 => (((decide (x94_49 < (0 : Int))) = true → K false w_48) ∧ ((decide (x94_49 < (0 : Int))) = false → (Fc Try.prog 22 #[x30_22.2.1, (.int .i64 x94_49)] w_48 (.one (.int .i64)) fun (x99_51 : Int) w_50 => (((decide (x99_51 < (0 : Int))) = true → K false w_50) ∧ ((decide (x99_51 < (0 : Int))) = false → (((x99_51 != x54_30) = true → K false w_50) ∧ ((x99_51 != x54_30) = false → K true w_50))))))))))))))))))))))))))))))))))))))))))))))))))))))))))))))))))))))))

theorem eq_laws_FnExactFindAlike (aX0 : Value) (aY1 : Value) (w : World) (K : Bool → World → Prop) :
    W Try.prog ty (fun _ _ _ _ => False) (bodyOf Try.f13) (fnPost Try.prog Try.f13.results.toList (.one .bool) K) (frame0 [aX0, aY1] 105) w = V_laws_FnExactFindAlike aX0 aY1 w K := by
  kernel_rfl

theorem body_laws_FnExactFindAlike : Try.f13.body = some (bodyOf Try.f13) := by kernel_rfl
theorem name_laws_FnExactFindAlike : (Try.f13.name == "runtime.NumGoroutine") = false := by kernel_rfl

theorem walk_laws_FnExactFindAlike (aX0 : Value) (aY1 : Value) {w : World} {K : Bool → World → Prop} (h : V_laws_FnExactFindAlike aX0 aY1 w K) : Fc Try.prog 13 #[aX0, aY1] w (.one .bool) K :=
  fn_ok follows (sound_none _) Try.func13 name_laws_FnExactFindAlike body_laws_FnExactFindAlike Try.ntmps13 [aX0, aY1] (Eq.mpr (eq_laws_FnExactFindAlike aX0 aY1 w K) h)

-- uses S2Sl
-- uses S9Law
theorem c_laws_FnExactFindAlike {c0 : Col} {c1 : Col} {w : World} {K : Bool → World → Prop} (h0 : c0.Ok) (h1 : c1.Ok) (hK : ∀ w', Below w.heap.size w w' → K true w') :
    Fc Try.prog F_laws_FnExactFindAlike #[c0.val, c1.val] w (.one .bool) K := by
  refine walk_laws_FnExactFindAlike _ _ ?_
  have B := Below.refl w.heap.size w
  refine colL_box fun b4 w1 b4_l b4_h q2 f3 => ?_
  replace B := B.trans (q2.mono B.size)
  have q2_s := q2.size
  refine colL_box fun b8 w5 b8_l b8_h q6 f7 => ?_
  replace f3 := f3.keep q6
  replace B := B.trans (q6.mono B.size)
  have q6_s := q6.size
  intro w9 d10
  have q11 := d10.below w5.heap.size
  replace f3 := f3.keep q11
  replace f7 := f7.keep q11
  replace B := B.trans (q11.mono B.size)
  have q11_s := q11.size
  have c12 := Below.refl w9.heap.size w9
  refine colL_all h0 f3 ?_
  refine colL_all h1 f7 ?_
  refine c_laws_toColouring h0 fun w13 q14 => ?_
  replace f3 := f3.keep q14
  replace f7 := f7.keep q14
  replace B := B.trans (q14.mono B.size)
  replace c12 := c12.trans (q14.mono c12.size)
  have q14_s := q14.size
  refine ⟨c12, ?_⟩
  refine c_laws_toColouring h1 fun w16 q17 => ?_
  replace f3 := f3.keep q17
  replace f7 := f7.keep q17
  replace B := B.trans (q17.mono B.size)
  replace c12 := c12.trans (q17.mono c12.size)
  have q17_s := q17.size
  refine ⟨c12, ?_⟩
  refine c_spec_FindAlike h0 h1 fun w19 v22 v24 M26 q20 M26_l M26_h f23 f25 => ?_
  replace f3 := f3.keep q20
  replace f7 := f7.keep q20
  replace B := B.trans (q20.mono B.size)
  replace c12 := c12.trans (q20.mono c12.size)
  have f23_len := f23.len
  have f25_len := f25.len
  have q20_s := q20.size
  refine ⟨c12, ?_⟩
  intro w27 d28
  have q29 := d28.below w19.heap.size
  replace f3 := f3.keep q29
  replace f7 := f7.keep q29
  replace f23 := f23.keep q29
  replace f25 := f25.keep q29
  replace B := B.trans (q29.mono B.size)
  have q29_s := q29.size
  have c30 := Below.refl w27.heap.size w27
  refine colL_all h0 f3 ?_
  refine colL_all h1 f7 ?_
  refine c_laws_toColouring h0 fun w31 q32 => ?_
  replace f3 := f3.keep q32
  replace f7 := f7.keep q32
  replace f23 := f23.keep q32
  replace f25 := f25.keep q32
  replace B := B.trans (q32.mono B.size)
  replace c30 := c30.trans (q32.mono c30.size)
  have q32_s := q32.size
  refine ⟨c30, ?_⟩
  refine c_laws_toColouring h1 fun w34 q35 => ?_
  replace f3 := f3.keep q35
  replace f7 := f7.keep q35
  replace f23 := f23.keep q35
  replace f25 := f25.keep q35
  replace B := B.trans (q35.mono B.size)
  replace c30 := c30.trans (q35.mono c30.size)
  have q35_s := q35.size
  refine ⟨c30, ?_⟩
  refine c_impl_FindAlike h0 h1 fun w37 v40 v42 M44 q38 M44_l M44_h f41 f43 => ?_
  replace f3 := f3.keep q38
  replace f7 := f7.keep q38
  replace f23 := f23.keep q38
  replace f25 := f25.keep q38
  replace B := B.trans (q38.mono B.size)
  replace c30 := c30.trans (q38.mono c30.size)
  have f41_len := f41.len
  have f43_len := f43.len
  have q38_s := q38.size
  refine ⟨c30, ?_⟩
  refine c_laws_eqInt64S f41.sl f23.sl fun w45 q46 => ?_
  replace f3 := f3.keep q46
  replace f7 := f7.keep q46
  replace f23 := f23.keep q46
  replace f25 := f25.keep q46
  replace f41 := f41.keep q46
  replace f43 := f43.keep q46
  replace B := B.trans (q46.mono B.size)
  replace c30 := c30.trans (q46.mono c30.size)
  have q46_s := q46.size
  refine ⟨fun e48 => absurd rfl (notd_t e48), fun _ => ?_⟩
  refine c_laws_eqInt64S f43.sl f25.sl fun w49 q50 => ?_
  replace f3 := f3.keep q50
  replace f7 := f7.keep q50
  replace f23 := f23.keep q50
  replace f25 := f25.keep q50
  replace f41 := f41.keep q50
  replace f43 := f43.keep q50
  replace B := B.trans (q50.mono B.size)
  replace c30 := c30.trans (q50.mono c30.size)
  have q50_s := q50.size
  refine ⟨fun e52 => absurd rfl (notd_t e52), fun _ => ?_⟩
  refine ⟨fun e53 => absurd rfl (ne_t e53), fun _ => ?_⟩
  refine c_laws_markInt64S f41 (by omega) (by omega) fun w54 q55 f56 => ?_
  replace f3 := f3.modr q55 (by omega)
  replace f7 := f7.modr q55 (by omega)
  replace f23 := f23.modr q55 (by omega)
  replace f25 := f25.modr q55 (by omega)
  replace f41 := f56
  replace f43 := f43.modr q55 (by omega)
  have q55_s := q55.size
  replace B := B.trans (q55.below (by omega) B.size)
  refine c_laws_markInt64S f43 (by omega) (by omega) fun w57 q58 f59 => ?_
  replace f3 := f3.modr q58 (by omega)
  replace f7 := f7.modr q58 (by omega)
  replace f23 := f23.modr q58 (by omega)
  replace f25 := f25.modr q58 (by omega)
  replace f41 := f41.modr q58 (by omega)
  replace f43 := f59
  have q58_s := q58.size
  replace B := B.trans (q58.below (by omega) B.size)
  refine c_laws_heldInt64S f41 (by omega) (by omega) fun w60 q61 => ?_
  replace f3 := f3.keep q61
  replace f7 := f7.keep q61
  replace f23 := f23.keep q61
  replace f25 := f25.keep q61
  replace f41 := f41.keep q61
  replace f43 := f43.keep q61
  replace B := B.trans (q61.mono B.size)
  have q61_s := q61.size
  refine ⟨fun e63 => absurd (dec_t e63) (by omega), fun _ => ?_⟩
  refine c_laws_heldInt64S f43 (by omega) (by omega) fun w64 q65 => ?_
  replace f3 := f3.keep q65
  replace f7 := f7.keep q65
  replace f23 := f23.keep q65
  replace f25 := f25.keep q65
  replace f41 := f41.keep q65
  replace f43 := f43.keep q65
  replace B := B.trans (q65.mono B.size)
  have q65_s := q65.size
  refine ⟨fun e67 => absurd (dec_t e67) (by omega), fun _ => ?_⟩
  refine ⟨fun e68 => absurd rfl (ne_t e68), fun _ => ?_⟩
  intro w69 d70
  have q71 := d70.below w64.heap.size
  replace f3 := f3.keep q71
  replace f7 := f7.keep q71
  replace f23 := f23.keep q71
  replace f25 := f25.keep q71
  replace f41 := f41.keep q71
  replace f43 := f43.keep q71
  replace B := B.trans (q71.mono B.size)
  have q71_s := q71.size
  have c72 := Below.refl w69.heap.size w69
  refine colL_all h0 f3 ?_
  refine colL_all h1 f7 ?_
  refine c_laws_toColouring h0 fun w73 q74 => ?_
  replace f3 := f3.keep q74
  replace f7 := f7.keep q74
  replace f23 := f23.keep q74
  replace f25 := f25.keep q74
  replace f41 := f41.keep q74
  replace f43 := f43.keep q74
  replace B := B.trans (q74.mono B.size)
  replace c72 := c72.trans (q74.mono c72.size)
  have q74_s := q74.size
  refine ⟨c72, ?_⟩
  refine c_laws_toColouring h1 fun w76 q77 => ?_
  replace f3 := f3.keep q77
  replace f7 := f7.keep q77
  replace f23 := f23.keep q77
  replace f25 := f25.keep q77
  replace f41 := f41.keep q77
  replace f43 := f43.keep q77
  replace B := B.trans (q77.mono B.size)
  replace c72 := c72.trans (q77.mono c72.size)
  have q77_s := q77.size
  refine ⟨c72, ?_⟩
  refine c_impl_FindAlike h0 h1 fun w79 v82 v84 M86 q80 M86_l M86_h f83 f85 => ?_
  replace f3 := f3.keep q80
  replace f7 := f7.keep q80
  replace f23 := f23.keep q80
  replace f25 := f25.keep q80
  replace f41 := f41.keep q80
  replace f43 := f43.keep q80
  replace B := B.trans (q80.mono B.size)
  replace c72 := c72.trans (q80.mono c72.size)
  have f83_len := f83.len
  have f85_len := f85.len
  have q80_s := q80.size
  refine ⟨c72, ?_⟩
  refine c_laws_eqInt64S f83.sl f23.sl fun w87 q88 => ?_
  replace f3 := f3.keep q88
  replace f7 := f7.keep q88
  replace f23 := f23.keep q88
  replace f25 := f25.keep q88
  replace f41 := f41.keep q88
  replace f43 := f43.keep q88
  replace f83 := f83.keep q88
  replace f85 := f85.keep q88
  replace B := B.trans (q88.mono B.size)
  replace c72 := c72.trans (q88.mono c72.size)
  have q88_s := q88.size
  refine ⟨fun e90 => absurd rfl (notd_t e90), fun _ => ?_⟩
  refine c_laws_eqInt64S f85.sl f25.sl fun w91 q92 => ?_
  replace f3 := f3.keep q92
  replace f7 := f7.keep q92
  replace f23 := f23.keep q92
  replace f25 := f25.keep q92
  replace f41 := f41.keep q92
  replace f43 := f43.keep q92
  replace f83 := f83.keep q92
  replace f85 := f85.keep q92
  replace B := B.trans (q92.mono B.size)
  replace c72 := c72.trans (q92.mono c72.size)
  have q92_s := q92.size
  refine ⟨fun e94 => absurd rfl (notd_t e94), fun _ => ?_⟩
  refine ⟨fun e95 => absurd rfl (ne_t e95), fun _ => ?_⟩
  refine c_laws_heldInt64S f41 (by omega) (by omega) fun w96 q97 => ?_
  replace f3 := f3.keep q97
  replace f7 := f7.keep q97
  replace f23 := f23.keep q97
  replace f25 := f25.keep q97
  replace f41 := f41.keep q97
  replace f43 := f43.keep q97
  replace f83 := f83.keep q97
  replace f85 := f85.keep q97
  replace B := B.trans (q97.mono B.size)
  replace c72 := c72.trans (q97.mono c72.size)
  have q97_s := q97.size
  refine ⟨fun e99 => absurd (dec_t e99) (by omega), fun _ => ?_⟩
  refine c_laws_heldInt64S f43 (by omega) (by omega) fun w100 q101 => ?_
  replace f3 := f3.keep q101
  replace f7 := f7.keep q101
  replace f23 := f23.keep q101
  replace f25 := f25.keep q101
  replace f41 := f41.keep q101
  replace f43 := f43.keep q101
  replace f83 := f83.keep q101
  replace f85 := f85.keep q101
  replace B := B.trans (q101.mono B.size)
  replace c72 := c72.trans (q101.mono c72.size)
  have q101_s := q101.size
  refine ⟨fun e103 => absurd (dec_t e103) (by omega), fun _ => ?_⟩
  refine ⟨fun e104 => absurd rfl (ne_t e104), fun _ => ?_⟩
  exact hK _ B

end Go.Proofs.Ytkadckhealbdaaa
