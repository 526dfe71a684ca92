/- The reading of spec_IsBalanced, and its contract. No condition. -/
import Derived.Test.YtdkodhonaoecnaaTy
import Derived.Test.YtdkodhonaoecnaaS9Bal
import Derived.Test.YtdkodhonaoecnaaFspecUl01Around
import Derived.Test.YtdkodhonaoecnaaFspecUl01Is
import Derived.Test.YtdkodhonaoecnaaFspecUl01Ones
namespace Go.Proofs.Ytdkodhonaoecnaa
open Go Go.RowKit Eng Mem
set_option linter.unusedVariables false
set_option maxRecDepth 100000
def B_spec_IsBalanced_7 (x1 : Value) (c4 : Int) (i5 : Int) (N : (Value × Int) → Int → World → Prop) (D2 : (Value × Int × Unit) → World → Prop) (R : (Bool × Int × Unit) → World → Prop) (w : World) : Prop :=
  (QAll Try.prog (Instr.fieldAt 28 x1 0) .any fun (x16_8 : Value) => (QSub Try.prog (Instr.loadAt 2 x16_8) w (.int .i64) fun (x17_9 : Int) => (((decide (i5 < x17_9)) = true → (∀ w_10, Drew w w_10 → (QSub Try.prog (Instr.loadAt 28 x1) w_10 .any fun (x21_11 : Value) => (QSub Try.prog (Instr.loadAt 28 x1) w_10 .any fun (x26_12 : Value) => (Fc Try.prog 83 #[x21_11, (.int .i64 i5), (.int .i64 c4)] w_10 (.one (.int .i64)) fun (x24_14 : Int) w_13 => (Keeps w_10 w_13 ((Fc Try.prog 82 #[(.int .i64 x24_14)] w_13 (.one (.int .i64)) fun (x25_16 : Int) w_15 => (Keeps w_10 w_15 ((Fc Try.prog 83 #[x26_12, (.int .i64 (0 : Int)), (.int .i64 c4)] w_15 (.one (.int .i64)) fun (x28_18 : Int) w_17 => (Keeps w_10 w_17 ((Fc Try.prog 82 #[(.int .i64 x28_18)] w_17 (.one (.int .i64)) fun (x29_20 : Int) w_19 => (Keeps w_10 w_19 ((((x25_16 != x29_20) = true → R (false, (0 : Int), ()) w_19) ∧ ((x25_16 != x29_20) = false → N ((x1 : Value), c4) (IntKind.i64.wrap (i5 + (1 : Int))) w_19)))))))))))))))))) ∧ ((decide (i5 < x17_9)) = false → D2 ((x1 : Value), c4, ()) w))))

abbrev L_spec_IsBalanced_7_e2 : List Slot := [.junk, .k .any, .junk, .junk, .k (.int .i64), .junk, .junk, .junk, .junk, .junk, .junk, .junk, .junk, .junk, .junk, .junk, .junk, .junk, .junk, .junk, .junk, .junk, .junk, .junk, .junk, .junk, .junk, .junk, .junk, .junk, .junk]

abbrev L_spec_IsBalanced_7_sp : List Slot := [.junk, .k .any, .junk, .junk, .k (.int .i64), .k (.int .i64), .junk, .junk, .junk, .junk, .junk, .junk, .junk, .junk, .junk, .junk, .junk, .junk, .junk, .junk, .junk, .junk, .junk, .junk, .junk, .junk, .junk, .junk, .junk, .junk, .junk]
abbrev L_spec_IsBalanced_7_ex : List (Nat × List Slot) := [(2, L_spec_IsBalanced_7_e2)]
abbrev L_spec_IsBalanced_7_rt : List Slot := [.junk, .junk, .k .bool, .k (.int .i64), .junk, .junk, .junk, .junk, .junk, .junk, .junk, .junk, .junk, .junk, .junk, .junk, .junk, .junk, .junk, .junk, .junk, .junk, .junk, .junk, .junk, .junk, .junk, .junk, .junk, .junk, .junk]

def L_spec_IsBalanced_7_b (Φ : Post) (u : (Value × Int)) (N : (Value × Int) → Int → World → Prop) (s : Int) (w : World) : Prop :=
  B_spec_IsBalanced_7 u.1 u.2 s N (fun v w => ∀ j : Nat → Value, Φ (.exit 2) (mkT j 0 L_spec_IsBalanced_7_e2 v) w) (fun v w => ∀ j : Nat → Value, Φ .ret (mkT j 0 L_spec_IsBalanced_7_rt v) w) w

theorem L_spec_IsBalanced_7_eq (j : Nat → Value) (u : (Value × Int)) (s : Int) (N : (Value × Int) → Int → World → Prop) (D2 : (Value × Int × Unit) → World → Prop) (R : (Bool × Int × Unit) → World → Prop) (w : World) :
    W Try.prog ty (fun _ _ _ _ => False) (loopAt Try.f37 7) (loopPost L_spec_IsBalanced_7_sp [(2, (⟨L_spec_IsBalanced_7_e2, D2⟩ : Door))] ⟨L_spec_IsBalanced_7_rt, R⟩ (fun v w => N ((fun v => (v.1, v.2.1)) v) ((fun v => v.2.2.1) v) w)) (mkT j 0 L_spec_IsBalanced_7_sp ((fun u s => (u.1, u.2, s, ())) u s)) w =
    B_spec_IsBalanced_7 u.1 u.2 s N D2 R w := by
  kernel_rfl

def O_spec_IsBalanced_1 : Code → Post → List SV → World → Prop :=
  orc 7 (loopAt Try.f37 7) L_spec_IsBalanced_7_sp (fun Φ fr w => LOOP (U := (Value × Int)) (S := Int) ((fun v => (v.1, v.2.1)) (extT L_spec_IsBalanced_7_sp fr)) (L_spec_IsBalanced_7_b Φ ((fun v => (v.1, v.2.1)) (extT L_spec_IsBalanced_7_sp fr))) ((fun v => v.2.2.1) (extT L_spec_IsBalanced_7_sp fr)) w) (fun _ _ _ _ => False)

theorem O_spec_IsBalanced_1_ok : Sound Try.prog O_spec_IsBalanced_1 :=
  orc_ok (sound_none _) fun Φ fr w hs h => loop_ok (ty := ty) follows (sound_none _) L_spec_IsBalanced_7_sp (fun v => (v.1, v.2.1)) (fun v => v.2.2.1) (fun u s => (u.1, u.2, s, ())) (fun _ => rfl) L_spec_IsBalanced_7_ex L_spec_IsBalanced_7_rt (body := L_spec_IsBalanced_7_b Φ) (fun j u s w N hb => by
    have e := L_spec_IsBalanced_7_eq j u s N (doorOf Φ (.exit 2) L_spec_IsBalanced_7_e2).D (doorOf Φ .ret L_spec_IsBalanced_7_rt).D w
    exact Eq.mpr e hb) hs h

def B_spec_IsBalanced_4 (x1 : Value) (c4 : Int) (N : Value → Int → World → Prop) (D0 : (Unit) → World → Prop) (R : (Bool × Int × Unit) → World → Prop) (w : World) : Prop :=
  (QAll Try.prog (Instr.fieldAt 28 x1 1) .any fun (x10_6 : Value) => (QSub Try.prog (Instr.loadAt 2 x10_6) w (.int .i64) fun (x11_7 : Int) => (((decide (c4 < x11_7)) = true → (At (loopAt Try.f37 7) (loopAt Try.f37 7) (LOOP (U := (Value × Int)) (S := Int) ((x1 : Value), c4) (fun N_27 s_28 w_29 => B_spec_IsBalanced_7 (x1 : Value) c4 s_28 N_27 (fun (v_21 : (Value × Int × Unit)) w_22 => ∀ _j_23 : Nat → Value, N (v_21.1 : Value) (IntKind.i64.wrap (v_21.2.1 + (1 : Int))) w_22) (fun (v_24 : (Bool × Int × Unit)) w_25 => ∀ _j_26 : Nat → Value, R (v_24.1, v_24.2.1, ()) w_25) w_29) (1 : Int) w))) ∧ ((decide (c4 < x11_7)) = false → D0 () w))))

abbrev L_spec_IsBalanced_4_e0 : List Slot := [.junk, .junk, .junk, .junk, .junk, .junk, .junk, .junk, .junk, .junk, .junk, .junk, .junk, .junk, .junk, .junk, .junk, .junk, .junk, .junk, .junk, .junk, .junk, .junk, .junk, .junk, .junk, .junk, .junk, .junk, .junk]

abbrev L_spec_IsBalanced_4_sp : List Slot := [.junk, .k .any, .junk, .junk, .k (.int .i64), .junk, .junk, .junk, .junk, .junk, .junk, .junk, .junk, .junk, .junk, .junk, .junk, .junk, .junk, .junk, .junk, .junk, .junk, .junk, .junk, .junk, .junk, .junk, .junk, .junk, .junk]
abbrev L_spec_IsBalanced_4_ex : List (Nat × List Slot) := [(0, L_spec_IsBalanced_4_e0)]
abbrev L_spec_IsBalanced_4_rt : List Slot := [.junk, .junk, .k .bool, .k (.int .i64), .junk, .junk, .junk, .junk, .junk, .junk, .junk, .junk, .junk, .junk, .junk, .junk, .junk, .junk, .junk, .junk, .junk, .junk, .junk, .junk, .junk, .junk, .junk, .junk, .junk, .junk, .junk]

def L_spec_IsBalanced_4_b (Φ : Post) (u : Value) (N : Value → Int → World → Prop) (s : Int) (w : World) : Prop :=
  B_spec_IsBalanced_4 u s N (fun v w => ∀ j : Nat → Value, Φ (.exit 0) (mkT j 0 L_spec_IsBalanced_4_e0 v) w) (fun v w => ∀ j : Nat → Value, Φ .ret (mkT j 0 L_spec_IsBalanced_4_rt v) w) w

theorem L_spec_IsBalanced_4_eq (j : Nat → Value) (u : Value) (s : Int) (N : Value → Int → World → Prop) (D0 : (Unit) → World → Prop) (R : (Bool × Int × Unit) → World → Prop) (w : World) :
    W Try.prog ty O_spec_IsBalanced_1 (loopAt Try.f37 4) (loopPost L_spec_IsBalanced_4_sp [(0, (⟨L_spec_IsBalanced_4_e0, D0⟩ : Door))] ⟨L_spec_IsBalanced_4_rt, R⟩ (fun v w => N ((fun v => v.1) v) ((fun v => v.2.1) v) w)) (mkT j 0 L_spec_IsBalanced_4_sp ((fun u s => (u, s, ())) u s)) w =
    B_spec_IsBalanced_4 u s N D0 R w := by
  kernel_rfl

def O_spec_IsBalanced_2 : Code → Post → List SV → World → Prop :=
  orc 4 (loopAt Try.f37 4) L_spec_IsBalanced_4_sp (fun Φ fr w => LOOP (U := Value) (S := Int) ((fun v => v.1) (extT L_spec_IsBalanced_4_sp fr)) (L_spec_IsBalanced_4_b Φ ((fun v => v.1) (extT L_spec_IsBalanced_4_sp fr))) ((fun v => v.2.1) (extT L_spec_IsBalanced_4_sp fr)) w) O_spec_IsBalanced_1

theorem O_spec_IsBalanced_2_ok : Sound Try.prog O_spec_IsBalanced_2 :=
  orc_ok O_spec_IsBalanced_1_ok fun Φ fr w hs h => loop_ok (ty := ty) follows O_spec_IsBalanced_1_ok L_spec_IsBalanced_4_sp (fun v => v.1) (fun v => v.2.1) (fun u s => (u, s, ())) (fun _ => rfl) L_spec_IsBalanced_4_ex L_spec_IsBalanced_4_rt (body := L_spec_IsBalanced_4_b Φ) (fun j u s w N hb => by
    have e := L_spec_IsBalanced_4_eq j u s N (doorOf Φ (.exit 0) L_spec_IsBalanced_4_e0).D (doorOf Φ .ret L_spec_IsBalanced_4_rt).D w
    exact Eq.mpr e hb) hs h

def V_spec_IsBalanced (x0 : Value) (w : World) (K : (Bool × Int) → World → Prop) : Prop :=
  (Pr Try.prog (Instr.box 28 x0) w (.one .any) fun (x1_2 : Value) w_1 => (QSub Try.prog (Instr.loadAt 28 x1_2) w_1 .any fun (x6_3 : Value) => (Fc Try.prog 64 #[x6_3] w_1 (.one .bool) fun (x7_5 : Bool) w_4 => (((!x7_5) = true → K (false, (1 : Int)) w_4) ∧ ((!x7_5) = false → (At (loopAt Try.f37 4) (loopAt Try.f37 4) (LOOP (U := Value) (S := Int) (x1_2 : Value) (fun N_36 s_37 w_38 => B_spec_IsBalanced_4 (x1_2 : Value) s_37 N_36 (fun (v_30 : (Unit)) w_31 => ∀ _j_32 : Nat → Value, K (true, (0 : Int)) w_31) (fun (v_33 : (Bool × Int × Unit)) w_34 => ∀ _j_35 : Nat → Value, K (v_33.1, v_33.2.1) w_34) w_38) (0 : Int) w_4)))))))

theorem eq_spec_IsBalanced (x0 : Value) (w : World) (K : (Bool × Int) → World → Prop) :
    W Try.prog ty O_spec_IsBalanced_2 (bodyOf Try.f37) (fnPost Try.prog Try.f37.results.toList (.two .bool (.int .i64)) K) (frame0 [x0] 31) w = V_spec_IsBalanced x0 w K := by
  kernel_rfl

theorem body_spec_IsBalanced : Try.f37.body = some (bodyOf Try.f37) := by kernel_rfl
theorem name_spec_IsBalanced : (Try.f37.name == "runtime.NumGoroutine") = false := by kernel_rfl

theorem walk_spec_IsBalanced (x0 : Value) {w : World} {K : (Bool × Int) → World → Prop} (h : V_spec_IsBalanced x0 w K) : Fc Try.prog 37 #[x0] w (.two .bool (.int .i64)) K :=
  fn_ok follows O_spec_IsBalanced_2_ok Try.func37 name_spec_IsBalanced body_spec_IsBalanced Try.ntmps37 [x0] (Eq.mpr (eq_spec_IsBalanced x0 w K) h)

-- uses S9Bal
theorem deg_ones' (c : Col) (i col : Int) : onesN (bitsN (fun j => joinB c i j col) c.n.toNat) = degN c i col := onesN_bits _ _
theorem bits62' (p : Nat → Bool) {n : Int} (h : n ≤ 17) : bitsN p n.toNat < 2 ^ 62 := Nat.lt_of_lt_of_le (bitsN_lt _ _) (Nat.pow_le_pow_right (by omega) (by omega))
theorem c_spec_IsBalanced {c : Col} {w : World} {K : Bool × Int → World → Prop} (hc : c.Ok)
    (hK : ∀ w', Below w.heap.size w w' → K ((balF c).1, (balF c).2) w') : Fc Try.prog F_spec_IsBalanced #[c.val] w (.two .bool (.int .i64)) K := by
  unfold balF at hK
  refine walk_spec_IsBalanced _ (col_box fun b w1 m1 hx => col_all hc hx (c_spec_l01Is hc fun w2 hb2 => ?_))
  have q2 := m1.below.trans (hb2.mono m1.below.size)
  refine ⟨fun hn => ?_, fun hy => ?_⟩
  · rw [if_neg (notd_t hn)] at hK
    exact hK w2 q2
  have h := notd_f hy
  rw [if_pos h] at hK
  have n1 := h.2.1; have n0 := h.1; have k0 := h.2.2.1; have k4 := h.2.2.2.1
  have hx2 := hx.keep hb2
  refine lp (fun s w' => Below w2.heap.size w2 w' ∧ ∃ a : Nat, s = a ∧ a ≤ c.k.toNat ∧ ∀ b : Nat, b < a → ∀ i : Nat, i < c.n.toNat → degN c i b = degN c 0 b) (fun s _ => (17 - s).toNat) ⟨Below.refl _ _, 0, rfl, by omega, fun b hb => absurd hb (by omega)⟩ ?_
  rintro t w3 N ⟨q3, a, ha, hak, ho⟩ hN
  subst ha
  unfold B_spec_IsBalanced_4
  refine col_k (hx2.keep q3) ⟨fun hlt => ?_, fun hge => ?_⟩
  · have hlt := dec_t hlt
    have base : ∀ i : Nat, i < 1 → degN c i a = degN c 0 a := fun i hi => by
      have : i = 0 := by omega
      subst this
      rfl
    refine lp (fun (s : Int) w' => Below w2.heap.size w2 w' ∧ ∃ p : Nat, s = p ∧ 1 ≤ p ∧ p ≤ c.n.toNat ∧ ∀ i : Nat, i < p → degN c i a = degN c 0 a) (fun s _ => (17 - s).toNat) ⟨q3, 1, rfl, by omega, by omega, base⟩ ?_
    rintro t w5 N'' ⟨q5, p, hp, hp1, hpn, ho2⟩ hN''
    subst hp
    unfold B_spec_IsBalanced_7
    refine col_n (hx2.keep q5) ⟨fun hlt3 => ?_, fun hge3 => ?_⟩
    · have hlt3 := dec_t hlt3
      intro w6 hdr
      have q6 := q5.trans (hdr.below w2.heap.size)
      refine col_all hc (hx2.keep q6) (col_all hc (hx2.keep q6) (c_spec_l01Around hc (by omega) (by omega) n1 fun w7 q7 => ⟨q7, c_spec_l01Ones (bits62' _ n1) ⟨q7, c_spec_l01Around hc (by omega) (by omega) n1 fun w8 q8 => ?_⟩⟩))
      have q78 := q7.trans (q8.mono q7.size)
      refine ⟨q78, c_spec_l01Ones (bits62' _ n1) ⟨q78, ?_⟩⟩
      rw [deg_ones', deg_ones']
      refine ⟨fun hne => ?_, fun he => ?_⟩
      · have hne := ne_t hne
        intro _ _
        have := hK w8 (q2.trans ((q6.trans (q78.mono q6.size)).mono q2.size))
        rwa [decide_eq_false (fun hB : Bal c => hne (by have := hB a (by omega) p (by omega); omega))] at this
      · have he := ne_f he
        rw [wrap_small (by omega) (by omega)]
        refine hN'' _ _ ⟨q6.trans (q78.mono q6.size), p + 1, by omega, by omega, by omega, fun i hi => ?_⟩ (by omega)
        by_cases hip : i < p
        · exact ho2 i hip
        · have : i = p := by omega
          subst this
          omega
    · have hge3 := dec_f hge3
      intro _
      dsimp only
      have : p = c.n.toNat := by omega
      subst this
      rw [wrap_small (by omega) (by omega)]
      refine hN _ _ ⟨q5, a + 1, by omega, by omega, fun b hb => ?_⟩ (by omega)
      by_cases hba : b < a
      · exact ho b hba
      · have : b = a := by omega
        subst this
        exact ho2
  · have hge := dec_f hge
    intro _
    have : a = c.k.toNat := by omega
    subst this
    have := hK w3 (q2.trans (q3.mono q2.size))
    rwa [decide_eq_true (show Bal c from ho)] at this

end Go.Proofs.Ytdkodhonaoecnaa
