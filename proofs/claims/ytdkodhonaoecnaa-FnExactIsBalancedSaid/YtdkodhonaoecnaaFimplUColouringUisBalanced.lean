/- The reading of impl_Colouring_isBalanced, and its contract. No condition. -/
import Derived.Test.YtdkodhonaoecnaaTy
import Derived.Test.YtdkodhonaoecnaaS9Bal
import Derived.Test.YtdkodhonaoecnaaFimplUColouringUdegrees
namespace Go.Proofs.Ytdkodhonaoecnaa
open Go Go.RowKit Eng Mem
set_option linter.unusedVariables false
set_option maxRecDepth 100000
def B_impl_Colouring_isBalanced_6 (x0 : Value) (list4 : Value) (x10 : Int) (x11 : Int) (x17 : Value) (x18 : Int) (x19 : Int) (N : (Value × Value × Int × Int × Value × Int) → Int → World → Prop) (D2 : (Value × Int × Int × Unit) → World → Prop) (R : (Bool × Unit) → World → Prop) (w : World) : Prop :=
  (((decide (x19 < x18)) = true → (QAll Try.prog (Instr.indexAt 25 x17 (.int .i64 x19)) .any fun (x21_6 : Value) => (QSub Try.prog (Instr.loadAt 2 x21_6) w (.int .i64) fun (x22_7 : Int) => (QAll Try.prog (Instr.indexAt 25 list4 (.int .i64 (0 : Int))) .any fun (x25_8 : Value) => (QSub Try.prog (Instr.loadAt 2 x25_8) w (.int .i64) fun (x26_9 : Int) => (((x22_7 != x26_9) = true → R (false, ()) w) ∧ ((x22_7 != x26_9) = false → N ((x0 : Value), (list4 : Value), x10, x11, (x17 : Value), x18) (IntKind.i64.wrap (x19 + (1 : Int))) w))))))) ∧ ((decide (x19 < x18)) = false → D2 ((x0 : Value), x10, x11, ()) w))

abbrev L_impl_Colouring_isBalanced_6_e2 : List Slot := [.k .any, .junk, .junk, .junk, .junk, .junk, .junk, .junk, .junk, .junk, .k (.int .i64), .k (.int .i64), .junk, .junk, .junk, .junk, .junk, .junk, .junk, .junk, .junk, .junk, .junk, .junk, .junk, .junk, .junk, .junk, .junk, .junk]

abbrev L_impl_Colouring_isBalanced_6_sp : List Slot := [.k .any, .junk, .junk, .junk, .k .any, .junk, .junk, .junk, .junk, .junk, .k (.int .i64), .k (.int .i64), .junk, .junk, .junk, .junk, .junk, .k .any, .k (.int .i64), .k (.int .i64), .junk, .junk, .junk, .junk, .junk, .junk, .junk, .junk, .junk, .junk]
abbrev L_impl_Colouring_isBalanced_6_ex : List (Nat × List Slot) := [(2, L_impl_Colouring_isBalanced_6_e2)]
abbrev L_impl_Colouring_isBalanced_6_rt : List Slot := [.junk, .junk, .k .bool, .junk, .junk, .junk, .junk, .junk, .junk, .junk, .junk, .junk, .junk, .junk, .junk, .junk, .junk, .junk, .junk, .junk, .junk, .junk, .junk, .junk, .junk, .junk, .junk, .junk, .junk, .junk]

def L_impl_Colouring_isBalanced_6_b (Φ : Post) (u : (Value × Value × Int × Int × Value × Int)) (N : (Value × Value × Int × Int × Value × Int) → Int → World → Prop) (s : Int) (w : World) : Prop :=
  B_impl_Colouring_isBalanced_6 u.1 u.2.1 u.2.2.1 u.2.2.2.1 u.2.2.2.2.1 u.2.2.2.2.2 s N (fun v w => ∀ j : Nat → Value, Φ (.exit 2) (mkT j 0 L_impl_Colouring_isBalanced_6_e2 v) w) (fun v w => ∀ j : Nat → Value, Φ .ret (mkT j 0 L_impl_Colouring_isBalanced_6_rt v) w) w

theorem L_impl_Colouring_isBalanced_6_eq (j : Nat → Value) (u : (Value × Value × Int × Int × Value × Int)) (s : Int) (N : (Value × Value × Int × Int × Value × Int) → Int → World → Prop) (D2 : (Value × Int × Int × Unit) → World → Prop) (R : (Bool × Unit) → World → Prop) (w : World) :
    W Try.prog ty (fun _ _ _ _ => False) (loopAt Try.f86 6) (loopPost L_impl_Colouring_isBalanced_6_sp [(2, (⟨L_impl_Colouring_isBalanced_6_e2, D2⟩ : Door))] ⟨L_impl_Colouring_isBalanced_6_rt, R⟩ (fun v w => N ((fun v => (v.1, v.2.1, v.2.2.1, v.2.2.2.1, v.2.2.2.2.1, v.2.2.2.2.2.1)) v) ((fun v => v.2.2.2.2.2.2.1) v) w)) (mkT j 0 L_impl_Colouring_isBalanced_6_sp ((fun u s => (u.1, u.2.1, u.2.2.1, u.2.2.2.1, u.2.2.2.2.1, u.2.2.2.2.2, s, ())) u s)) w =
    B_impl_Colouring_isBalanced_6 u.1 u.2.1 u.2.2.1 u.2.2.2.1 u.2.2.2.2.1 u.2.2.2.2.2 s N D2 R w := by
  kernel_rfl

def O_impl_Colouring_isBalanced_1 : Code → Post → List SV → World → Prop :=
  orc 6 (loopAt Try.f86 6) L_impl_Colouring_isBalanced_6_sp (fun Φ fr w => LOOP (U := (Value × Value × Int × Int × Value × Int)) (S := Int) ((fun v => (v.1, v.2.1, v.2.2.1, v.2.2.2.1, v.2.2.2.2.1, v.2.2.2.2.2.1)) (extT L_impl_Colouring_isBalanced_6_sp fr)) (L_impl_Colouring_isBalanced_6_b Φ ((fun v => (v.1, v.2.1, v.2.2.1, v.2.2.2.1, v.2.2.2.2.1, v.2.2.2.2.2.1)) (extT L_impl_Colouring_isBalanced_6_sp fr))) ((fun v => v.2.2.2.2.2.2.1) (extT L_impl_Colouring_isBalanced_6_sp fr)) w) (fun _ _ _ _ => False)

theorem O_impl_Colouring_isBalanced_1_ok : Sound Try.prog O_impl_Colouring_isBalanced_1 :=
  orc_ok (sound_none _) fun Φ fr w hs h => loop_ok (ty := ty) follows (sound_none _) L_impl_Colouring_isBalanced_6_sp (fun v => (v.1, v.2.1, v.2.2.1, v.2.2.2.1, v.2.2.2.2.1, v.2.2.2.2.2.1)) (fun v => v.2.2.2.2.2.2.1) (fun u s => (u.1, u.2.1, u.2.2.1, u.2.2.2.1, u.2.2.2.2.1, u.2.2.2.2.2, s, ())) (fun _ => rfl) L_impl_Colouring_isBalanced_6_ex L_impl_Colouring_isBalanced_6_rt (body := L_impl_Colouring_isBalanced_6_b Φ) (fun j u s w N hb => by
    have e := L_impl_Colouring_isBalanced_6_eq j u s N (doorOf Φ (.exit 2) L_impl_Colouring_isBalanced_6_e2).D (doorOf Φ .ret L_impl_Colouring_isBalanced_6_rt).D w
    exact Eq.mpr e hb) hs h

def B_impl_Colouring_isBalanced_2 (x0 : Value) (x10 : Int) (x11 : Int) (N : (Value × Int) → Int → World → Prop) (D0 : (Unit) → World → Prop) (R : (Bool × Unit) → World → Prop) (w : World) : Prop :=
  (((decide (x11 < x10)) = true → (Fc Try.prog 85 #[x0, (.int .i64 x11)] w (.one .any) fun (x16_4 : Value) w_3 => (QAll Try.prog (Builtin.len_ #[25] 3 #[x16_4]) (.int .i64) fun (x18_5 : Int) => (At (loopAt Try.f86 6) (loopAt Try.f86 6) (LOOP (U := (Value × Value × Int × Int × Value × Int)) (S := Int) ((x0 : Value), (x16_4 : Value), x10, x11, (x16_4 : Value), x18_5) (fun N_16 s_17 w_18 => B_impl_Colouring_isBalanced_6 (x0 : Value) (x16_4 : Value) x10 x11 (x16_4 : Value) x18_5 s_17 N_16 (fun (v_10 : (Value × Int × Int × Unit)) w_11 => ∀ _j_12 : Nat → Value, N ((v_10.1 : Value), v_10.2.1) (IntKind.i64.wrap (v_10.2.2.1 + (1 : Int))) w_11) (fun (v_13 : (Bool × Unit)) w_14 => ∀ _j_15 : Nat → Value, R (v_13.1, ()) w_14) w_18) (0 : Int) w_3))))) ∧ ((decide (x11 < x10)) = false → D0 () w))

abbrev L_impl_Colouring_isBalanced_2_e0 : List Slot := [.junk, .junk, .junk, .junk, .junk, .junk, .junk, .junk, .junk, .junk, .junk, .junk, .junk, .junk, .junk, .junk, .junk, .junk, .junk, .junk, .junk, .junk, .junk, .junk, .junk, .junk, .junk, .junk, .junk, .junk]

abbrev L_impl_Colouring_isBalanced_2_sp : List Slot := [.k .any, .junk, .junk, .junk, .junk, .junk, .junk, .junk, .junk, .junk, .k (.int .i64), .k (.int .i64), .junk, .junk, .junk, .junk, .junk, .junk, .junk, .junk, .junk, .junk, .junk, .junk, .junk, .junk, .junk, .junk, .junk, .junk]
abbrev L_impl_Colouring_isBalanced_2_ex : List (Nat × List Slot) := [(0, L_impl_Colouring_isBalanced_2_e0)]
abbrev L_impl_Colouring_isBalanced_2_rt : List Slot := [.junk, .junk, .k .bool, .junk, .junk, .junk, .junk, .junk, .junk, .junk, .junk, .junk, .junk, .junk, .junk, .junk, .junk, .junk, .junk, .junk, .junk, .junk, .junk, .junk, .junk, .junk, .junk, .junk, .junk, .junk]

def L_impl_Colouring_isBalanced_2_b (Φ : Post) (u : (Value × Int)) (N : (Value × Int) → Int → World → Prop) (s : Int) (w : World) : Prop :=
  B_impl_Colouring_isBalanced_2 u.1 u.2 s N (fun v w => ∀ j : Nat → Value, Φ (.exit 0) (mkT j 0 L_impl_Colouring_isBalanced_2_e0 v) w) (fun v w => ∀ j : Nat → Value, Φ .ret (mkT j 0 L_impl_Colouring_isBalanced_2_rt v) w) w

theorem L_impl_Colouring_isBalanced_2_eq (j : Nat → Value) (u : (Value × Int)) (s : Int) (N : (Value × Int) → Int → World → Prop) (D0 : (Unit) → World → Prop) (R : (Bool × Unit) → World → Prop) (w : World) :
    W Try.prog ty O_impl_Colouring_isBalanced_1 (loopAt Try.f86 2) (loopPost L_impl_Colouring_isBalanced_2_sp [(0, (⟨L_impl_Colouring_isBalanced_2_e0, D0⟩ : Door))] ⟨L_impl_Colouring_isBalanced_2_rt, R⟩ (fun v w => N ((fun v => (v.1, v.2.1)) v) ((fun v => v.2.2.1) v) w)) (mkT j 0 L_impl_Colouring_isBalanced_2_sp ((fun u s => (u.1, u.2, s, ())) u s)) w =
    B_impl_Colouring_isBalanced_2 u.1 u.2 s N D0 R w := by
  kernel_rfl

def O_impl_Colouring_isBalanced_2 : Code → Post → List SV → World → Prop :=
  orc 2 (loopAt Try.f86 2) L_impl_Colouring_isBalanced_2_sp (fun Φ fr w => LOOP (U := (Value × Int)) (S := Int) ((fun v => (v.1, v.2.1)) (extT L_impl_Colouring_isBalanced_2_sp fr)) (L_impl_Colouring_isBalanced_2_b Φ ((fun v => (v.1, v.2.1)) (extT L_impl_Colouring_isBalanced_2_sp fr))) ((fun v => v.2.2.1) (extT L_impl_Colouring_isBalanced_2_sp fr)) w) O_impl_Colouring_isBalanced_1

theorem O_impl_Colouring_isBalanced_2_ok : Sound Try.prog O_impl_Colouring_isBalanced_2 :=
  orc_ok O_impl_Colouring_isBalanced_1_ok fun Φ fr w hs h => loop_ok (ty := ty) follows O_impl_Colouring_isBalanced_1_ok L_impl_Colouring_isBalanced_2_sp (fun v => (v.1, v.2.1)) (fun v => v.2.2.1) (fun u s => (u.1, u.2, s, ())) (fun _ => rfl) L_impl_Colouring_isBalanced_2_ex L_impl_Colouring_isBalanced_2_rt (body := L_impl_Colouring_isBalanced_2_b Φ) (fun j u s w N hb => by
    have e := L_impl_Colouring_isBalanced_2_eq j u s N (doorOf Φ (.exit 0) L_impl_Colouring_isBalanced_2_e0).D (doorOf Φ .ret L_impl_Colouring_isBalanced_2_rt).D w
    exact Eq.mpr e hb) hs h

def V_impl_Colouring_isBalanced (x0 : Value) (w : World) (K : Bool → World → Prop) : Prop :=
  (NilOk x0 ∧ (QAll Try.prog (Instr.fieldAt 28 x0 1) .any fun (x9_1 : Value) => (QSub Try.prog (Instr.loadAt 2 x9_1) w (.int .i64) fun (x10_2 : Int) => (At (loopAt Try.f86 2) (loopAt Try.f86 2) (LOOP (U := (Value × Int)) (S := Int) ((x0 : Value), x10_2) (fun N_25 s_26 w_27 => B_impl_Colouring_isBalanced_2 (x0 : Value) x10_2 s_26 N_25 (fun (v_19 : (Unit)) w_20 => ∀ _j_21 : Nat → Value, K true w_20) (fun (v_22 : (Bool × Unit)) w_23 => ∀ _j_24 : Nat → Value, K v_22.1 w_23) w_27) (0 : Int) w)))))

theorem eq_impl_Colouring_isBalanced (x0 : Value) (w : World) (K : Bool → World → Prop) :
    W Try.prog ty O_impl_Colouring_isBalanced_2 (bodyOf Try.f86) (fnPost Try.prog Try.f86.results.toList (.one .bool) K) (frame0 [x0] 30) w = V_impl_Colouring_isBalanced x0 w K := by
  kernel_rfl

theorem body_impl_Colouring_isBalanced : Try.f86.body = some (bodyOf Try.f86) := by kernel_rfl
theorem name_impl_Colouring_isBalanced : (Try.f86.name == "runtime.NumGoroutine") = false := by kernel_rfl

theorem walk_impl_Colouring_isBalanced (x0 : Value) {w : World} {K : Bool → World → Prop} (h : V_impl_Colouring_isBalanced x0 w K) : Fc Try.prog 86 #[x0] w (.one .bool) K :=
  fn_ok follows O_impl_Colouring_isBalanced_2_ok Try.func86 name_impl_Colouring_isBalanced body_impl_Colouring_isBalanced Try.ntmps86 [x0] (Eq.mpr (eq_impl_Colouring_isBalanced x0 w K) h)

-- uses S9Bal
theorem c_impl_Colouring_isBalanced {x : Value} {c : Col} {w : World} {K : Bool → World → Prop} (hc : c.Ok) (h : c.Is) (hx : ColAt w x c)
    (hK : ∀ w', Below w.heap.size w w' → K (decide (Bal c)) w') : Fc Try.prog F_impl_Colouring_isBalanced #[x] w (.one .bool) K := by
  have n1 := h.2.1; have n0 := h.1; have k0 := h.2.2.1; have k4 := h.2.2.2.1
  refine walk_impl_Colouring_isBalanced _ ⟨hx.nonnil, col_k hx ?_⟩
  refine lp (fun s w' => Below w.heap.size w w' ∧ ∃ a : Nat, s = a ∧ a ≤ c.k.toNat ∧ ∀ b : Nat, b < a → ∀ i : Nat, i < c.n.toNat → degN c i b = degN c 0 b) (fun s _ => (17 - s).toNat) ⟨Below.refl _ _, 0, rfl, by omega, fun b hb => absurd hb (by omega)⟩ ?_
  rintro t w3 N ⟨q3, a, ha, hak, ho⟩ hN
  subst ha
  unfold B_impl_Colouring_isBalanced_2
  refine ⟨fun hlt => ?_, fun hge => ?_⟩
  · have hlt := dec_t hlt
    refine c_impl_Colouring_degrees hc (hx.keep q3) (by omega) n1 fun u w5 b5 hb5 q5 o5 => ?_
    have q35 := q3.trans (q5.mono q3.size)
    have l5 := degL_len c a
    have s5 := own_slI o5 (by omega)
    refine lenI s5 ?_
    refine lp (fun s w' => w' = w5 ∧ ∃ p : Nat, s = p ∧ p ≤ c.n.toNat ∧ ∀ i : Nat, i < p → degN c i a = degN c 0 a) (fun s _ => (17 - s).toNat) ⟨rfl, 0, rfl, by omega, fun i hi => absurd hi (by omega)⟩ ?_
    rintro t w7 N'' ⟨rfl, p, hp, hpn, ho2⟩ hN''
    subst hp
    unfold B_impl_Colouring_isBalanced_6
    refine ⟨fun hlt3 => ?_, fun hge3 => ?_⟩
    · have hlt3 := dec_t hlt3
      rw [l5] at hlt3
      refine atI s5 (by omega) (by omega) (atI s5 (by omega) (by omega) ?_)
      rw [Int.toNat_natCast, degL_get _ _ (by omega), show (0 : Int).toNat = 0 from rfl, degL_get _ _ (by omega), show ((0 : Nat) : Int) = 0 from rfl]
      refine ⟨fun hne => ?_, fun he => ?_⟩
      · have hne := ne_t hne
        intro _ _
        have := hK w7 q35
        rwa [decide_eq_false (fun hB : Bal c => hne (by have := hB a (by omega) p (by omega); omega))] at this
      · have he := ne_f he
        rw [wrap_small (by omega) (by omega)]
        refine hN'' _ _ ⟨rfl, p + 1, by omega, by omega, fun i hi => ?_⟩ (by omega)
        by_cases hip : i < p
        · exact ho2 i hip
        · have : i = p := by omega
          subst this
          omega
    · have hge3 := dec_f hge3
      rw [l5] at hge3
      intro _
      dsimp only
      have : p = c.n.toNat := by omega
      subst this
      rw [wrap_small (by omega) (by omega)]
      refine hN _ _ ⟨q35, a + 1, by omega, by omega, fun b hb => ?_⟩ (by omega)
      by_cases hba : b < a
      · exact ho b hba
      · have : b = a := by omega
        subst this
        exact ho2
  · have hge := dec_f hge
    intro _
    have : a = c.k.toNat := by omega
    subst this
    have := hK w3 q3
    rwa [decide_eq_true (show Bal c from ho)] at this

end Go.Proofs.Ytdkodhonaoecnaa
