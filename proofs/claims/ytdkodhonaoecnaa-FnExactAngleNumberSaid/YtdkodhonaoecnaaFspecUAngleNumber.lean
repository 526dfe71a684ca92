/- The reading of spec_AngleNumber, and its contract. No condition. -/
import Derived.Test.YtdkodhonaoecnaaTy
import Derived.Test.YtdkodhonaoecnaaS9Bal
import Derived.Test.YtdkodhonaoecnaaFspecUl01Around
import Derived.Test.YtdkodhonaoecnaaFspecUl01Is
import Derived.Test.YtdkodhonaoecnaaFspecUl01Ones
namespace Go.Proofs.Ytdkodhonaoecnaa
open Go Go.RowKit Eng Mem
set_option linter.unusedVariables false
set_option maxRecDepth 100000
def B_spec_AngleNumber_11 (x1 : Value) (p5 : Int) (c6 : Int) (sum4 : Int) (d7 : Int) (N : (Value × Int × Int) → (Int × Int) → World → Prop) (D4 : (Value × Int × Int × Int × Unit) → World → Prop) (w : World) : Prop :=
  (((decide (d7 < c6)) = true → (∀ w_10, Drew w w_10 → (QSub Try.prog (Instr.loadAt 28 x1) w_10 .any fun (x29_11 : Value) => (QSub Try.prog (Instr.loadAt 28 x1) w_10 .any fun (x34_12 : Value) => (Fc Try.prog 83 #[x29_11, (.int .i64 p5), (.int .i64 c6)] w_10 (.one (.int .i64)) fun (x32_14 : Int) w_13 => (Keeps w_10 w_13 ((Fc Try.prog 82 #[(.int .i64 x32_14)] w_13 (.one (.int .i64)) fun (x33_16 : Int) w_15 => (Keeps w_10 w_15 ((Fc Try.prog 83 #[x34_12, (.int .i64 p5), (.int .i64 d7)] w_15 (.one (.int .i64)) fun (x37_18 : Int) w_17 => (Keeps w_10 w_17 ((Fc Try.prog 82 #[(.int .i64 x37_18)] w_17 (.one (.int .i64)) fun (x38_20 : Int) w_19 => (Keeps w_10 w_19 (N ((x1 : Value), p5, c6) ((IntKind.i64.wrap (sum4 + (IntKind.i64.wrap (x33_16 * x38_20)))), (IntKind.i64.wrap (d7 + (1 : Int)))) w_19)))))))))))))))) ∧ ((decide (d7 < c6)) = false → D4 ((x1 : Value), sum4, p5, c6, ()) w))

abbrev L_spec_AngleNumber_11_e4 : List Slot := [.junk, .k .any, .junk, .junk, .k (.int .i64), .k (.int .i64), .k (.int .i64), .junk, .junk, .junk, .junk, .junk, .junk, .junk, .junk, .junk, .junk, .junk, .junk, .junk, .junk, .junk, .junk, .junk, .junk, .junk, .junk, .junk, .junk, .junk, .junk, .junk, .junk, .junk, .junk, .junk, .junk, .junk, .junk, .junk, .junk, .junk]

abbrev L_spec_AngleNumber_11_sp : List Slot := [.junk, .k .any, .junk, .junk, .k (.int .i64), .k (.int .i64), .k (.int .i64), .k (.int .i64), .junk, .junk, .junk, .junk, .junk, .junk, .junk, .junk, .junk, .junk, .junk, .junk, .junk, .junk, .junk, .junk, .junk, .junk, .junk, .junk, .junk, .junk, .junk, .junk, .junk, .junk, .junk, .junk, .junk, .junk, .junk, .junk, .junk, .junk]
abbrev L_spec_AngleNumber_11_ex : List (Nat × List Slot) := [(4, L_spec_AngleNumber_11_e4)]
abbrev L_spec_AngleNumber_11_rt : List Slot := [.junk, .junk, .junk, .junk, .junk, .junk, .junk, .junk, .junk, .junk, .junk, .junk, .junk, .junk, .junk, .junk, .junk, .junk, .junk, .junk, .junk, .junk, .junk, .junk, .junk, .junk, .junk, .junk, .junk, .junk, .junk, .junk, .junk, .junk, .junk, .junk, .junk, .junk, .junk, .junk, .junk, .junk]

def L_spec_AngleNumber_11_b (Φ : Post) (u : (Value × Int × Int)) (N : (Value × Int × Int) → (Int × Int) → World → Prop) (s : (Int × Int)) (w : World) : Prop :=
  B_spec_AngleNumber_11 u.1 u.2.1 u.2.2 s.1 s.2 N (fun v w => ∀ j : Nat → Value, Φ (.exit 4) (mkT j 0 L_spec_AngleNumber_11_e4 v) w) w

theorem L_spec_AngleNumber_11_eq (j : Nat → Value) (u : (Value × Int × Int)) (s : (Int × Int)) (N : (Value × Int × Int) → (Int × Int) → World → Prop) (D4 : (Value × Int × Int × Int × Unit) → World → Prop) (R : (Unit) → World → Prop) (w : World) :
    W Try.prog ty (fun _ _ _ _ => False) (loopAt Try.f35 11) (loopPost L_spec_AngleNumber_11_sp [(4, (⟨L_spec_AngleNumber_11_e4, D4⟩ : Door))] ⟨L_spec_AngleNumber_11_rt, R⟩ (fun v w => N ((fun v => (v.1, v.2.2.1, v.2.2.2.1)) v) ((fun v => (v.2.1, v.2.2.2.2.1)) v) w)) (mkT j 0 L_spec_AngleNumber_11_sp ((fun u s => (u.1, s.1, u.2.1, u.2.2, s.2, ())) u s)) w =
    B_spec_AngleNumber_11 u.1 u.2.1 u.2.2 s.1 s.2 N D4 w := by
  kernel_rfl

def O_spec_AngleNumber_1 : Code → Post → List SV → World → Prop :=
  orc 11 (loopAt Try.f35 11) L_spec_AngleNumber_11_sp (fun Φ fr w => LOOP (U := (Value × Int × Int)) (S := (Int × Int)) ((fun v => (v.1, v.2.2.1, v.2.2.2.1)) (extT L_spec_AngleNumber_11_sp fr)) (L_spec_AngleNumber_11_b Φ ((fun v => (v.1, v.2.2.1, v.2.2.2.1)) (extT L_spec_AngleNumber_11_sp fr))) ((fun v => (v.2.1, v.2.2.2.2.1)) (extT L_spec_AngleNumber_11_sp fr)) w) (fun _ _ _ _ => False)

theorem O_spec_AngleNumber_1_ok : Sound Try.prog O_spec_AngleNumber_1 :=
  orc_ok (sound_none _) fun Φ fr w hs h => loop_ok (ty := ty) follows (sound_none _) L_spec_AngleNumber_11_sp (fun v => (v.1, v.2.2.1, v.2.2.2.1)) (fun v => (v.2.1, v.2.2.2.2.1)) (fun u s => (u.1, s.1, u.2.1, u.2.2, s.2, ())) (fun _ => rfl) L_spec_AngleNumber_11_ex L_spec_AngleNumber_11_rt (body := L_spec_AngleNumber_11_b Φ) (fun j u s w N hb => by
    have e := L_spec_AngleNumber_11_eq j u s N (doorOf Φ (.exit 4) L_spec_AngleNumber_11_e4).D (doorOf Φ .ret L_spec_AngleNumber_11_rt).D w
    exact Eq.mpr e hb) hs h

def B_spec_AngleNumber_8 (x1 : Value) (p5 : Int) (sum4 : Int) (c6 : Int) (N : (Value × Int) → (Int × Int) → World → Prop) (D2 : (Value × Int × Int × Unit) → World → Prop) (w : World) : Prop :=
  (QAll Try.prog (Instr.fieldAt 28 x1 1) .any fun (x18_8 : Value) => (QSub Try.prog (Instr.loadAt 2 x18_8) w (.int .i64) fun (x19_9 : Int) => (((decide (c6 < x19_9)) = true → (At (loopAt Try.f35 11) (loopAt Try.f35 11) (LOOP (U := (Value × Int × Int)) (S := (Int × Int)) ((x1 : Value), p5, c6) (fun N_24 s_25 w_26 => B_spec_AngleNumber_11 (x1 : Value) p5 c6 s_25.1 s_25.2 N_24 (fun (v_21 : (Value × Int × Int × Int × Unit)) w_22 => ∀ _j_23 : Nat → Value, N ((v_21.1 : Value), v_21.2.2.1) (v_21.2.1, (IntKind.i64.wrap (v_21.2.2.2.1 + (1 : Int)))) w_22) w_26) (sum4, (0 : Int)) w))) ∧ ((decide (c6 < x19_9)) = false → D2 ((x1 : Value), sum4, p5, ()) w))))

abbrev L_spec_AngleNumber_8_e2 : List Slot := [.junk, .k .any, .junk, .junk, .k (.int .i64), .k (.int .i64), .junk, .junk, .junk, .junk, .junk, .junk, .junk, .junk, .junk, .junk, .junk, .junk, .junk, .junk, .junk, .junk, .junk, .junk, .junk, .junk, .junk, .junk, .junk, .junk, .junk, .junk, .junk, .junk, .junk, .junk, .junk, .junk, .junk, .junk, .junk, .junk]

abbrev L_spec_AngleNumber_8_sp : List Slot := [.junk, .k .any, .junk, .junk, .k (.int .i64), .k (.int .i64), .k (.int .i64), .junk, .junk, .junk, .junk, .junk, .junk, .junk, .junk, .junk, .junk, .junk, .junk, .junk, .junk, .junk, .junk, .junk, .junk, .junk, .junk, .junk, .junk, .junk, .junk, .junk, .junk, .junk, .junk, .junk, .junk, .junk, .junk, .junk, .junk, .junk]
abbrev L_spec_AngleNumber_8_ex : List (Nat × List Slot) := [(2, L_spec_AngleNumber_8_e2)]
abbrev L_spec_AngleNumber_8_rt : List Slot := [.junk, .junk, .junk, .junk, .junk, .junk, .junk, .junk, .junk, .junk, .junk, .junk, .junk, .junk, .junk, .junk, .junk, .junk, .junk, .junk, .junk, .junk, .junk, .junk, .junk, .junk, .junk, .junk, .junk, .junk, .junk, .junk, .junk, .junk, .junk, .junk, .junk, .junk, .junk, .junk, .junk, .junk]

def L_spec_AngleNumber_8_b (Φ : Post) (u : (Value × Int)) (N : (Value × Int) → (Int × Int) → World → Prop) (s : (Int × Int)) (w : World) : Prop :=
  B_spec_AngleNumber_8 u.1 u.2 s.1 s.2 N (fun v w => ∀ j : Nat → Value, Φ (.exit 2) (mkT j 0 L_spec_AngleNumber_8_e2 v) w) w

theorem L_spec_AngleNumber_8_eq (j : Nat → Value) (u : (Value × Int)) (s : (Int × Int)) (N : (Value × Int) → (Int × Int) → World → Prop) (D2 : (Value × Int × Int × Unit) → World → Prop) (R : (Unit) → World → Prop) (w : World) :
    W Try.prog ty O_spec_AngleNumber_1 (loopAt Try.f35 8) (loopPost L_spec_AngleNumber_8_sp [(2, (⟨L_spec_AngleNumber_8_e2, D2⟩ : Door))] ⟨L_spec_AngleNumber_8_rt, R⟩ (fun v w => N ((fun v => (v.1, v.2.2.1)) v) ((fun v => (v.2.1, v.2.2.2.1)) v) w)) (mkT j 0 L_spec_AngleNumber_8_sp ((fun u s => (u.1, s.1, u.2, s.2, ())) u s)) w =
    B_spec_AngleNumber_8 u.1 u.2 s.1 s.2 N D2 w := by
  kernel_rfl

def O_spec_AngleNumber_2 : Code → Post → List SV → World → Prop :=
  orc 8 (loopAt Try.f35 8) L_spec_AngleNumber_8_sp (fun Φ fr w => LOOP (U := (Value × Int)) (S := (Int × Int)) ((fun v => (v.1, v.2.2.1)) (extT L_spec_AngleNumber_8_sp fr)) (L_spec_AngleNumber_8_b Φ ((fun v => (v.1, v.2.2.1)) (extT L_spec_AngleNumber_8_sp fr))) ((fun v => (v.2.1, v.2.2.2.1)) (extT L_spec_AngleNumber_8_sp fr)) w) O_spec_AngleNumber_1

theorem O_spec_AngleNumber_2_ok : Sound Try.prog O_spec_AngleNumber_2 :=
  orc_ok O_spec_AngleNumber_1_ok fun Φ fr w hs h => loop_ok (ty := ty) follows O_spec_AngleNumber_1_ok L_spec_AngleNumber_8_sp (fun v => (v.1, v.2.2.1)) (fun v => (v.2.1, v.2.2.2.1)) (fun u s => (u.1, s.1, u.2, s.2, ())) (fun _ => rfl) L_spec_AngleNumber_8_ex L_spec_AngleNumber_8_rt (body := L_spec_AngleNumber_8_b Φ) (fun j u s w N hb => by
    have e := L_spec_AngleNumber_8_eq j u s N (doorOf Φ (.exit 2) L_spec_AngleNumber_8_e2).D (doorOf Φ .ret L_spec_AngleNumber_8_rt).D w
    exact Eq.mpr e hb) hs h

def B_spec_AngleNumber_5 (x1 : Value) (sum4 : Int) (p5 : Int) (N : Value → (Int × Int) → World → Prop) (D0 : (Int × Unit) → World → Prop) (w : World) : Prop :=
  (QAll Try.prog (Instr.fieldAt 28 x1 0) .any fun (x12_6 : Value) => (QSub Try.prog (Instr.loadAt 2 x12_6) w (.int .i64) fun (x13_7 : Int) => (((decide (p5 < x13_7)) = true → (At (loopAt Try.f35 8) (loopAt Try.f35 8) (LOOP (U := (Value × Int)) (S := (Int × Int)) ((x1 : Value), p5) (fun N_30 s_31 w_32 => B_spec_AngleNumber_8 (x1 : Value) p5 s_31.1 s_31.2 N_30 (fun (v_27 : (Value × Int × Int × Unit)) w_28 => ∀ _j_29 : Nat → Value, N (v_27.1 : Value) (v_27.2.1, (IntKind.i64.wrap (v_27.2.2.1 + (1 : Int)))) w_28) w_32) (sum4, (0 : Int)) w))) ∧ ((decide (p5 < x13_7)) = false → D0 (sum4, ()) w))))

abbrev L_spec_AngleNumber_5_e0 : List Slot := [.junk, .junk, .junk, .junk, .k (.int .i64), .junk, .junk, .junk, .junk, .junk, .junk, .junk, .junk, .junk, .junk, .junk, .junk, .junk, .junk, .junk, .junk, .junk, .junk, .junk, .junk, .junk, .junk, .junk, .junk, .junk, .junk, .junk, .junk, .junk, .junk, .junk, .junk, .junk, .junk, .junk, .junk, .junk]

abbrev L_spec_AngleNumber_5_sp : List Slot := [.junk, .k .any, .junk, .junk, .k (.int .i64), .k (.int .i64), .junk, .junk, .junk, .junk, .junk, .junk, .junk, .junk, .junk, .junk, .junk, .junk, .junk, .junk, .junk, .junk, .junk, .junk, .junk, .junk, .junk, .junk, .junk, .junk, .junk, .junk, .junk, .junk, .junk, .junk, .junk, .junk, .junk, .junk, .junk, .junk]
abbrev L_spec_AngleNumber_5_ex : List (Nat × List Slot) := [(0, L_spec_AngleNumber_5_e0)]
abbrev L_spec_AngleNumber_5_rt : List Slot := [.junk, .junk, .junk, .junk, .junk, .junk, .junk, .junk, .junk, .junk, .junk, .junk, .junk, .junk, .junk, .junk, .junk, .junk, .junk, .junk, .junk, .junk, .junk, .junk, .junk, .junk, .junk, .junk, .junk, .junk, .junk, .junk, .junk, .junk, .junk, .junk, .junk, .junk, .junk, .junk, .junk, .junk]

def L_spec_AngleNumber_5_b (Φ : Post) (u : Value) (N : Value → (Int × Int) → World → Prop) (s : (Int × Int)) (w : World) : Prop :=
  B_spec_AngleNumber_5 u s.1 s.2 N (fun v w => ∀ j : Nat → Value, Φ (.exit 0) (mkT j 0 L_spec_AngleNumber_5_e0 v) w) w

theorem L_spec_AngleNumber_5_eq (j : Nat → Value) (u : Value) (s : (Int × Int)) (N : Value → (Int × Int) → World → Prop) (D0 : (Int × Unit) → World → Prop) (R : (Unit) → World → Prop) (w : World) :
    W Try.prog ty O_spec_AngleNumber_2 (loopAt Try.f35 5) (loopPost L_spec_AngleNumber_5_sp [(0, (⟨L_spec_AngleNumber_5_e0, D0⟩ : Door))] ⟨L_spec_AngleNumber_5_rt, R⟩ (fun v w => N ((fun v => v.1) v) ((fun v => (v.2.1, v.2.2.1)) v) w)) (mkT j 0 L_spec_AngleNumber_5_sp ((fun u s => (u, s.1, s.2, ())) u s)) w =
    B_spec_AngleNumber_5 u s.1 s.2 N D0 w := by
  kernel_rfl

def O_spec_AngleNumber_3 : Code → Post → List SV → World → Prop :=
  orc 5 (loopAt Try.f35 5) L_spec_AngleNumber_5_sp (fun Φ fr w => LOOP (U := Value) (S := (Int × Int)) ((fun v => v.1) (extT L_spec_AngleNumber_5_sp fr)) (L_spec_AngleNumber_5_b Φ ((fun v => v.1) (extT L_spec_AngleNumber_5_sp fr))) ((fun v => (v.2.1, v.2.2.1)) (extT L_spec_AngleNumber_5_sp fr)) w) O_spec_AngleNumber_2

theorem O_spec_AngleNumber_3_ok : Sound Try.prog O_spec_AngleNumber_3 :=
  orc_ok O_spec_AngleNumber_2_ok fun Φ fr w hs h => loop_ok (ty := ty) follows O_spec_AngleNumber_2_ok L_spec_AngleNumber_5_sp (fun v => v.1) (fun v => (v.2.1, v.2.2.1)) (fun u s => (u, s.1, s.2, ())) (fun _ => rfl) L_spec_AngleNumber_5_ex L_spec_AngleNumber_5_rt (body := L_spec_AngleNumber_5_b Φ) (fun j u s w N hb => by
    have e := L_spec_AngleNumber_5_eq j u s N (doorOf Φ (.exit 0) L_spec_AngleNumber_5_e0).D (doorOf Φ .ret L_spec_AngleNumber_5_rt).D w
    exact Eq.mpr e hb) hs h

def V_spec_AngleNumber (x0 : Value) (w : World) (K : (Int × Int) → World → Prop) : Prop :=
  (Pr Try.prog (Instr.box 28 x0) w (.one .any) fun (x1_2 : Value) w_1 => (QSub Try.prog (Instr.loadAt 28 x1_2) w_1 .any fun (x8_3 : Value) => (Fc Try.prog 64 #[x8_3] w_1 (.one .bool) fun (x9_5 : Bool) w_4 => (((!x9_5) = true → K ((0 : Int), (1 : Int)) w_4) ∧ ((!x9_5) = false → (At (loopAt Try.f35 5) (loopAt Try.f35 5) (LOOP (U := Value) (S := (Int × Int)) (x1_2 : Value) (fun N_36 s_37 w_38 => B_spec_AngleNumber_5 (x1_2 : Value) s_37.1 s_37.2 N_36 (fun (v_33 : (Int × Unit)) w_34 => ∀ _j_35 : Nat → Value, K (v_33.1, (0 : Int)) w_34) w_38) ((0 : Int), (0 : Int)) w_4)))))))

theorem eq_spec_AngleNumber (x0 : Value) (w : World) (K : (Int × Int) → World → Prop) :
    W Try.prog ty O_spec_AngleNumber_3 (bodyOf Try.f35) (fnPost Try.prog Try.f35.results.toList (.two (.int .i64) (.int .i64)) K) (frame0 [x0] 42) w = V_spec_AngleNumber x0 w K := by
  kernel_rfl

theorem body_spec_AngleNumber : Try.f35.body = some (bodyOf Try.f35) := by kernel_rfl
theorem name_spec_AngleNumber : (Try.f35.name == "runtime.NumGoroutine") = false := by kernel_rfl

theorem walk_spec_AngleNumber (x0 : Value) {w : World} {K : (Int × Int) → World → Prop} (h : V_spec_AngleNumber x0 w K) : Fc Try.prog 35 #[x0] w (.two (.int .i64) (.int .i64)) K :=
  fn_ok follows O_spec_AngleNumber_3_ok Try.func35 name_spec_AngleNumber body_spec_AngleNumber Try.ntmps35 [x0] (Eq.mpr (eq_spec_AngleNumber x0 w K) h)

-- uses S9Bal
theorem deg_ones (c : Col) (i col : Int) : onesN (bitsN (fun j => joinB c i j col) c.n.toNat) = degN c i col := onesN_bits _ _
theorem bits62 (p : Nat → Bool) {n : Int} (h : n ≤ 17) : bitsN p n.toNat < 2 ^ 62 := Nat.lt_of_lt_of_le (bitsN_lt _ _) (Nat.pow_le_pow_right (by omega) (by omega))
theorem c_spec_AngleNumber {c : Col} {w : World} {K : Int × Int → World → Prop} (hc : c.Ok)
    (hK : ∀ w', Below w.heap.size w w' → K ((angF c).1, (angF c).2) w') : Fc Try.prog F_spec_AngleNumber #[c.val] w (.two (.int .i64) (.int .i64)) K := by
  unfold angF at hK
  refine walk_spec_AngleNumber _ (col_box fun b w1 m1 hx => col_all hc hx (c_spec_l01Is hc fun w2 hb2 => ?_))
  have q2 := m1.below.trans (hb2.mono m1.below.size)
  refine ⟨fun hn => ?_, fun hy => ?_⟩
  · rw [if_neg (notd_t hn)] at hK
    exact hK w2 q2
  have h := notd_f hy
  rw [if_pos h] at hK
  have n1 := h.2.1; have n0 := h.1; have k0 := h.2.2.1; have k4 := h.2.2.2.1
  have hx2 := hx.keep hb2
  unfold angN at hK
  have bp : ∀ p a m : Nat, m ≤ 4 → 0 ≤ sumN (fun d => dd c p a d) m ∧ sumN (fun d => dd c p a d) m ≤ 1156 := fun p a m hm => by
    have := sumN_bd (f := fun d => dd c p a d) (n := m) (M := 289) (fun i _ => dd_bd n1 p a i)
    omega
  have bd : ∀ p m : Nat, m ≤ 4 → 0 ≤ sumN (fun a => sumN (fun d => dd c p a d) a) m ∧ sumN (fun a => sumN (fun d => dd c p a d) a) m ≤ 4624 := fun p m hm => by
    have := sumN_bd (f := fun a => sumN (fun d => dd c p a d) a) (n := m) (M := 1156) (fun i _ => bp p i _ (by omega))
    omega
  have bc : ∀ m : Nat, m ≤ 17 → 0 ≤ sumN (fun p => sumN (fun a => sumN (fun d => dd c p a d) a) c.k.toNat) m ∧ sumN (fun p => sumN (fun a => sumN (fun d => dd c p a d) a) c.k.toNat) m ≤ 78608 := fun m hm => by
    have := sumN_bd (f := fun p => sumN (fun a => sumN (fun d => dd c p a d) a) c.k.toNat) (n := m) (M := 4624) (fun i hi => bd i _ (by omega))
    omega
  refine lp (fun s w' => Below w2.heap.size w2 w' ∧ ∃ p : Nat, s.2 = p ∧ p ≤ c.n.toNat ∧ s.1 = sumN (fun p => sumN (fun a => sumN (fun d => dd c p a d) a) c.k.toNat) p) (fun s _ => (17 - s.2).toNat) ⟨Below.refl _ _, 0, rfl, by omega, rfl⟩ ?_
  rintro ⟨out, t⟩ w3 N ⟨q3, p, hp, hpn, ho⟩ hN
  simp only at hp ho
  subst hp; subst ho
  unfold B_spec_AngleNumber_5
  dsimp only
  refine col_n (hx2.keep q3) ⟨fun hlt => ?_, fun hge => ?_⟩
  · have hlt := dec_t hlt
    refine lp (fun s w' => Below w2.heap.size w2 w' ∧ ∃ a : Nat, s.2 = a ∧ a ≤ c.k.toNat ∧ s.1 = sumN (fun p => sumN (fun a => sumN (fun d => dd c p a d) a) c.k.toNat) p + sumN (fun a => sumN (fun d => dd c p a d) a) a) (fun s _ => (17 - s.2).toNat) ⟨q3, 0, rfl, by omega, by simp [sumN]⟩ ?_
    rintro ⟨out, t⟩ w4 N' ⟨q4, a, ha, hak, ho⟩ hN'
    simp only at ha ho
    subst ha; subst ho
    unfold B_spec_AngleNumber_8
    dsimp only
    refine col_k (hx2.keep q4) ⟨fun hlt2 => ?_, fun hge2 => ?_⟩
    · have hlt2 := dec_t hlt2
      refine lp (fun s w' => Below w2.heap.size w2 w' ∧ ∃ d : Nat, s.2 = d ∧ d ≤ a ∧ s.1 = sumN (fun p => sumN (fun a => sumN (fun d => dd c p a d) a) c.k.toNat) p + sumN (fun a => sumN (fun d => dd c p a d) a) a + sumN (fun d => dd c p a d) d) (fun s _ => (17 - s.2).toNat) ⟨q4, 0, rfl, by omega, by simp [sumN]⟩ ?_
      rintro ⟨out, t⟩ w5 N'' ⟨q5, d, hd, hda, ho⟩ hN''
      simp only at hd ho
      subst hd; subst ho
      unfold B_spec_AngleNumber_11
      dsimp only
      have B1 := bc p (by omega); have B2 := bd p a (by omega); have B3 := bp p a d (by omega)
      refine ⟨fun hlt3 => ?_, fun hge3 => ?_⟩
      · have hlt3 := dec_t hlt3
        intro w6 hdr
        have q6 := q5.trans (hdr.below w2.heap.size)
        refine col_all hc (hx2.keep q6) (col_all hc (hx2.keep q6) (c_spec_l01Around hc (by omega) (by omega) n1 fun w7 q7 => ⟨q7, c_spec_l01Ones (bits62 _ n1) ⟨q7, c_spec_l01Around hc (by omega) (by omega) n1 fun w8 q8 => ?_⟩⟩))
        have q78 := q7.trans (q8.mono q7.size)
        refine ⟨q78, c_spec_l01Ones (bits62 _ n1) ⟨q78, ?_⟩⟩
        rw [deg_ones, deg_ones]
        have hdd : (degN c p a : Int) * (degN c p d : Int) = dd c p a d := rfl
        have B4 := dd_bd n1 p a d
        have B5 := bp p a (d + 1) (by omega)
        rw [hdd, wrap_small (n := dd c p a d) (by omega) (by omega), wrap_small (n := (d : Int) + 1) (by omega) (by omega), wrap_small (by omega) (by omega)]
        refine hN'' _ _ ⟨q6.trans (q78.mono q6.size), d + 1, by simp only; omega, by omega, ?_⟩ (by simp only; omega)
        simp only [sumN]
        omega
      · have hge3 := dec_f hge3
        intro _
        have : d = a := by omega
        subst this
        rw [wrap_small (n := (d : Int) + 1) (by omega) (by omega)]
        refine hN' _ _ ⟨q5, d + 1, by simp only; omega, by omega, ?_⟩ (by simp only; omega)
        simp only [sumN]
        omega
    · have hge2 := dec_f hge2
      intro _
      have : a = c.k.toNat := by omega
      subst this
      rw [wrap_small (n := (p : Int) + 1) (by omega) (by omega)]
      refine hN _ _ ⟨q4, p + 1, by simp only; omega, by omega, ?_⟩ (by simp only; omega)
      simp only [sumN]
  · have hge := dec_f hge
    intro _
    have : p = c.n.toNat := by omega
    subst this
    exact hK w3 (q2.trans (q3.mono q2.size))

end Go.Proofs.Ytdkodhonaoecnaa
