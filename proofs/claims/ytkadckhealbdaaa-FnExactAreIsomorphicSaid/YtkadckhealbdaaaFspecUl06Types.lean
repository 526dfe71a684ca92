/- The reading of spec_l06Types, and its contract. No condition. -/
import Derived.Test.YtkadckhealbdaaaTy
import Derived.Test.YtkadckhealbdaaaS9IsoS
import Derived.Test.YtkadckhealbdaaaFspecUl01Around
import Derived.Test.YtkadckhealbdaaaFspecUl01Ones
namespace Go.Proofs.Ytkadckhealbdaaa
open Go Go.RowKit Eng Mem
set_option linter.unusedVariables false
set_option maxRecDepth 100000
def B_spec_l06Types_7 (x1 : Value) (out3 : Value) (p4 : Int) (own5 : Int) (c6 : Int) (N : (Value × Value × Int) → (Int × Int) → World → Prop) (D2 : (Value × Value × Int × Int × Unit) → World → Prop) (w : World) : Prop :=
  (QAll Try.prog (Instr.fieldAt 25 x1 1) .any fun (x15_7 : Value) => (QSub Try.prog (Instr.loadAt 2 x15_7) w (.int .i64) fun (x16_8 : Int) => (((decide (c6 < x16_8)) = true → (QSub Try.prog (Instr.loadAt 25 x1) w .any fun (x22_9 : Value) => (Fc Try.prog 117 #[x22_9, (.int .i64 p4), (.int .i64 c6)] w (.one (.int .i64)) fun (x25_11 : Int) w_10 => (Fc Try.prog 116 #[(.int .i64 x25_11)] w_10 (.one (.int .i64)) fun (x26_13 : Int) w_12 => N ((x1 : Value), (out3 : Value), p4) ((IntKind.i64.wrap ((IntKind.i64.wrap (own5 * (18 : Int))) + x26_13)), (IntKind.i64.wrap (c6 + (1 : Int)))) w_12)))) ∧ ((decide (c6 < x16_8)) = false → D2 ((x1 : Value), (out3 : Value), p4, own5, ()) w))))

abbrev L_spec_l06Types_7_e2 : List Slot := [.junk, .k .any, .junk, .k .any, .k (.int .i64), .k (.int .i64), .junk, .junk, .junk, .junk, .junk, .junk, .junk, .junk, .junk, .junk, .junk, .junk, .junk, .junk, .junk, .junk, .junk, .junk, .junk, .junk, .junk, .junk, .junk, .junk, .junk, .junk, .junk]

abbrev L_spec_l06Types_7_sp : List Slot := [.junk, .k .any, .junk, .k .any, .k (.int .i64), .k (.int .i64), .k (.int .i64), .junk, .junk, .junk, .junk, .junk, .junk, .junk, .junk, .junk, .junk, .junk, .junk, .junk, .junk, .junk, .junk, .junk, .junk, .junk, .junk, .junk, .junk, .junk, .junk, .junk, .junk]
abbrev L_spec_l06Types_7_ex : List (Nat × List Slot) := [(2, L_spec_l06Types_7_e2)]
abbrev L_spec_l06Types_7_rt : List Slot := [.junk, .junk, .junk, .junk, .junk, .junk, .junk, .junk, .junk, .junk, .junk, .junk, .junk, .junk, .junk, .junk, .junk, .junk, .junk, .junk, .junk, .junk, .junk, .junk, .junk, .junk, .junk, .junk, .junk, .junk, .junk, .junk, .junk]

def L_spec_l06Types_7_b (Φ : Post) (u : (Value × Value × Int)) (N : (Value × Value × Int) → (Int × Int) → World → Prop) (s : (Int × Int)) (w : World) : Prop :=
  B_spec_l06Types_7 u.1 u.2.1 u.2.2 s.1 s.2 N (fun v w => ∀ j : Nat → Value, Φ (.exit 2) (mkT j 0 L_spec_l06Types_7_e2 v) w) w

theorem L_spec_l06Types_7_eq (j : Nat → Value) (u : (Value × Value × Int)) (s : (Int × Int)) (N : (Value × Value × Int) → (Int × Int) → World → Prop) (D2 : (Value × Value × Int × Int × Unit) → World → Prop) (R : (Unit) → World → Prop) (w : World) :
    W Try.prog ty (fun _ _ _ _ => False) (loopAt Try.f96 7) (loopPost L_spec_l06Types_7_sp [(2, (⟨L_spec_l06Types_7_e2, D2⟩ : Door))] ⟨L_spec_l06Types_7_rt, R⟩ (fun v w => N ((fun v => (v.1, v.2.1, v.2.2.1)) v) ((fun v => (v.2.2.2.1, v.2.2.2.2.1)) v) w)) (mkT j 0 L_spec_l06Types_7_sp ((fun u s => (u.1, u.2.1, u.2.2, s.1, s.2, ())) u s)) w =
    B_spec_l06Types_7 u.1 u.2.1 u.2.2 s.1 s.2 N D2 w := by
  kernel_rfl

def O_spec_l06Types_1 : Code → Post → List SV → World → Prop :=
  orc 7 (loopAt Try.f96 7) L_spec_l06Types_7_sp (fun Φ fr w => LOOP (U := (Value × Value × Int)) (S := (Int × Int)) ((fun v => (v.1, v.2.1, v.2.2.1)) (extT L_spec_l06Types_7_sp fr)) (L_spec_l06Types_7_b Φ ((fun v => (v.1, v.2.1, v.2.2.1)) (extT L_spec_l06Types_7_sp fr))) ((fun v => (v.2.2.2.1, v.2.2.2.2.1)) (extT L_spec_l06Types_7_sp fr)) w) (fun _ _ _ _ => False)

theorem O_spec_l06Types_1_ok : Sound Try.prog O_spec_l06Types_1 :=
  orc_ok (sound_none _) fun Φ fr w hs h => loop_ok (ty := ty) follows (sound_none _) L_spec_l06Types_7_sp (fun v => (v.1, v.2.1, v.2.2.1)) (fun v => (v.2.2.2.1, v.2.2.2.2.1)) (fun u s => (u.1, u.2.1, u.2.2, s.1, s.2, ())) (fun _ => rfl) L_spec_l06Types_7_ex L_spec_l06Types_7_rt (body := L_spec_l06Types_7_b Φ) (fun j u s w N hb => by
    have e := L_spec_l06Types_7_eq j u s N (doorOf Φ (.exit 2) L_spec_l06Types_7_e2).D (doorOf Φ .ret L_spec_l06Types_7_rt).D w
    exact Eq.mpr e hb) hs h

def B_spec_l06Types_3 (x1 : Value) (out3 : Value) (p4 : Int) (N : Value → (Value × Int) → World → Prop) (D0 : (Value × Unit) → World → Prop) (w : World) : Prop :=
  (QAll Try.prog (Instr.fieldAt 25 x1 0) .any fun (x9_5 : Value) => (QSub Try.prog (Instr.loadAt 2 x9_5) w (.int .i64) fun (x10_6 : Int) => (((decide (p4 < x10_6)) = true → (At (loopAt Try.f96 7) (loopAt Try.f96 7) (LOOP (U := (Value × Value × Int)) (S := (Int × Int)) ((x1 : Value), (out3 : Value), p4) (fun N_21 s_22 w_23 => B_spec_l06Types_7 (x1 : Value) (out3 : Value) p4 s_22.1 s_22.2 N_21 (fun (v_14 : (Value × Value × Int × Int × Unit)) w_15 => ∀ _j_16 : Nat → Value, (Pr Try.prog (Instr.buildSlice 31 1 #[(0, (.int .i64 v_14.2.2.2.1))]) w_15 (.one .any) fun (x30_18 : Value) w_17 => (Pr Try.prog (Builtin.append_ #[31, 31] 31 #[v_14.2.1, x30_18]) w_17 (.one .any) fun (x31_20 : Value) w_19 => N (v_14.1 : Value) ((x31_20 : Value), (IntKind.i64.wrap (v_14.2.2.1 + (1 : Int)))) w_19))) w_23) ((0 : Int), (0 : Int)) w))) ∧ ((decide (p4 < x10_6)) = false → D0 ((out3 : Value), ()) w))))

abbrev L_spec_l06Types_3_e0 : List Slot := [.junk, .junk, .junk, .k .any, .junk, .junk, .junk, .junk, .junk, .junk, .junk, .junk, .junk, .junk, .junk, .junk, .junk, .junk, .junk, .junk, .junk, .junk, .junk, .junk, .junk, .junk, .junk, .junk, .junk, .junk, .junk, .junk, .junk]

abbrev L_spec_l06Types_3_sp : List Slot := [.junk, .k .any, .junk, .k .any, .k (.int .i64), .junk, .junk, .junk, .junk, .junk, .junk, .junk, .junk, .junk, .junk, .junk, .junk, .junk, .junk, .junk, .junk, .junk, .junk, .junk, .junk, .junk, .junk, .junk, .junk, .junk, .junk, .junk, .junk]
abbrev L_spec_l06Types_3_ex : List (Nat × List Slot) := [(0, L_spec_l06Types_3_e0)]
abbrev L_spec_l06Types_3_rt : List Slot := [.junk, .junk, .junk, .junk, .junk, .junk, .junk, .junk, .junk, .junk, .junk, .junk, .junk, .junk, .junk, .junk, .junk, .junk, .junk, .junk, .junk, .junk, .junk, .junk, .junk, .junk, .junk, .junk, .junk, .junk, .junk, .junk, .junk]

def L_spec_l06Types_3_b (Φ : Post) (u : Value) (N : Value → (Value × Int) → World → Prop) (s : (Value × Int)) (w : World) : Prop :=
  B_spec_l06Types_3 u s.1 s.2 N (fun v w => ∀ j : Nat → Value, Φ (.exit 0) (mkT j 0 L_spec_l06Types_3_e0 v) w) w

theorem L_spec_l06Types_3_eq (j : Nat → Value) (u : Value) (s : (Value × Int)) (N : Value → (Value × Int) → World → Prop) (D0 : (Value × Unit) → World → Prop) (R : (Unit) → World → Prop) (w : World) :
    W Try.prog ty O_spec_l06Types_1 (loopAt Try.f96 3) (loopPost L_spec_l06Types_3_sp [(0, (⟨L_spec_l06Types_3_e0, D0⟩ : Door))] ⟨L_spec_l06Types_3_rt, R⟩ (fun v w => N ((fun v => v.1) v) ((fun v => (v.2.1, v.2.2.1)) v) w)) (mkT j 0 L_spec_l06Types_3_sp ((fun u s => (u, s.1, s.2, ())) u s)) w =
    B_spec_l06Types_3 u s.1 s.2 N D0 w := by
  kernel_rfl

def O_spec_l06Types_2 : Code → Post → List SV → World → Prop :=
  orc 3 (loopAt Try.f96 3) L_spec_l06Types_3_sp (fun Φ fr w => LOOP (U := Value) (S := (Value × Int)) ((fun v => v.1) (extT L_spec_l06Types_3_sp fr)) (L_spec_l06Types_3_b Φ ((fun v => v.1) (extT L_spec_l06Types_3_sp fr))) ((fun v => (v.2.1, v.2.2.1)) (extT L_spec_l06Types_3_sp fr)) w) O_spec_l06Types_1

theorem O_spec_l06Types_2_ok : Sound Try.prog O_spec_l06Types_2 :=
  orc_ok O_spec_l06Types_1_ok fun Φ fr w hs h => loop_ok (ty := ty) follows O_spec_l06Types_1_ok L_spec_l06Types_3_sp (fun v => v.1) (fun v => (v.2.1, v.2.2.1)) (fun u s => (u, s.1, s.2, ())) (fun _ => rfl) L_spec_l06Types_3_ex L_spec_l06Types_3_rt (body := L_spec_l06Types_3_b Φ) (fun j u s w N hb => by
    have e := L_spec_l06Types_3_eq j u s N (doorOf Φ (.exit 0) L_spec_l06Types_3_e0).D (doorOf Φ .ret L_spec_l06Types_3_rt).D w
    exact Eq.mpr e hb) hs h

def V_spec_l06Types (x0 : Value) (w : World) (K : Value → World → Prop) : Prop :=
  (Pr Try.prog (Instr.box 25 x0) w (.one .any) fun (x1_2 : Value) w_1 => (Pr Try.prog (Instr.buildSlice 31 0 #[]) w_1 (.one .any) fun (x7_4 : Value) w_3 => (At (loopAt Try.f96 3) (loopAt Try.f96 3) (LOOP (U := Value) (S := (Value × Int)) (x1_2 : Value) (fun N_27 s_28 w_29 => B_spec_l06Types_3 (x1_2 : Value) s_28.1 s_28.2 N_27 (fun (v_24 : (Value × Unit)) w_25 => ∀ _j_26 : Nat → Value, K (v_24.1 : Value) w_25) w_29) ((x7_4 : Value), (0 : Int)) w_3))))

theorem eq_spec_l06Types (x0 : Value) (w : World) (K : Value → World → Prop) :
    W Try.prog ty O_spec_l06Types_2 (bodyOf Try.f96) (fnPost Try.prog Try.f96.results.toList (.one .any) K) (frame0 [x0] 33) w = V_spec_l06Types x0 w K := by
  kernel_rfl

theorem body_spec_l06Types : Try.f96.body = some (bodyOf Try.f96) := by kernel_rfl
theorem name_spec_l06Types : (Try.f96.name == "runtime.NumGoroutine") = false := by kernel_rfl

theorem walk_spec_l06Types (x0 : Value) {w : World} {K : Value → World → Prop} (h : V_spec_l06Types x0 w K) : Fc Try.prog 96 #[x0] w (.one .any) K :=
  fn_ok follows O_spec_l06Types_2_ok Try.func96 name_spec_l06Types body_spec_l06Types Try.ntmps96 [x0] (Eq.mpr (eq_spec_l06Types x0 w K) h)

-- uses S9IsoS
theorem c_spec_l06Types {x : Col} {w : World} {K : Value → World → Prop} (hx : x.Ok) (hI : x.Is) (hK : ∀ v w' b, w.heap.size ≤ b → Below w.heap.size w w' → OwnI w' b v (typesL x x.n.toNat) → K v w') :
    Fc Try.prog F_spec_l06Types #[x.val] w (.one .any) K := by
  have n0 := hI.1; have n1 := hI.2.1; have k0 := hI.2.2.1; have k4 := hI.2.2.2.1
  refine walk_spec_l06Types _ (col_box fun b1 w1 m1 ax => nilI fun b0 v0 w2 e0 q2 o0 => ?_)
  have q1 := m1.below
  have q12 := q1.trans (q2.mono q1.size)
  have ax2 := ax.keep q2
  have hs1 := q1.size; have hs2 := q12.size
  have bd : ∀ (i : Int) (c : Nat), c ≤ 4 → 0 ≤ typeN x i c ∧ typeN x i c < 104976 := fun i c hc => by
    have := typeN_bd n1 i c
    have e : (18 : Int) ^ c ≤ 104976 := by
      have : c = 0 ∨ c = 1 ∨ c = 2 ∨ c = 3 ∨ c = 4 := by omega
      rcases this with h | h | h | h | h <;> subst h <;> decide
    omega
  refine lp (fun s w' => Below w1.heap.size w1 w' ∧ ∃ (i b : Nat), s.2 = i ∧ i ≤ x.n.toNat ∧ w1.heap.size ≤ b ∧ OwnI w' b s.1 (typesL x i)) (fun s _ => (17 - s.2).toNat) ⟨q2, 0, b0, rfl, by omega, by omega, o0⟩ ?_
  rintro ⟨v, t⟩ w3 N ⟨q3, i, b, hi, hin, hb, ho⟩ hN
  simp only at hi ho
  subst hi
  unfold B_spec_l06Types_3
  dsimp only
  refine col_n (ax.keep q3) ⟨fun hlt => ?_, fun hge => ?_⟩
  · have hlt := dec_t hlt
    refine lp (fun s w' => Below w3.heap.size w3 w' ∧ ∃ c : Nat, s.2 = c ∧ c ≤ x.k.toNat ∧ s.1 = typeN x i c) (fun s _ => (17 - s.2).toNat) ⟨Below.refl _ _, 0, rfl, by omega, rfl⟩ ?_
    rintro ⟨own, t⟩ w4 N' ⟨q4, c, hc, hck, hown⟩ hN'
    simp only at hc hown
    subst hc; subst hown
    unfold B_spec_l06Types_7
    dsimp only
    have q34 := q3.trans (q4.mono q3.size)
    refine col_k (ax.keep q34) ⟨fun hlt2 => ?_, fun hge2 => ?_⟩
    · have hlt2 := dec_t hlt2
      refine col_all hx (ax.keep q34) (c_spec_l01Around hx (by omega) (by omega) n1 fun w5 q5 => c_spec_l01Ones (Nat.lt_of_lt_of_le (bitsN_lt _ _) (Nat.pow_le_pow_right (by omega) (by omega))) ?_)
      rw [onesN_bits]
      have hd : (List.range x.n.toNat).countP (fun j : Nat => joinB x i j c) = degN x i c := rfl
      rw [hd]
      have b1 := bd i c (by omega)
      have b2 := bd i (c + 1) (by omega)
      have hs : typeN x i (c + 1) = typeN x i c * 18 + degN x i c := rfl
      rw [wrap_small (n := typeN x i c * 18) (by omega) (by omega), wrap_small (n := (c : Int) + 1) (by omega) (by omega), wrap_small (by omega) (by omega)]
      exact hN' _ _ ⟨q4.trans (q5.mono q4.size), c + 1, by simp only; omega, by omega, by simp only [hs]⟩ (by simp only; omega)
    · have hge2 := dec_f hge2
      have : c = x.k.toNat := by omega
      subst this
      intro _
      have hs3 := q34.size
      refine appI (ho.keep q4) (by rw [typesL_len]; omega) fun v' w5 b' o5 m5 hb5 => ?_
      rw [wrap_small (by omega) (by omega)]
      have hz3 := q3.size; have hz4 := q4.size
      refine hN _ _ ⟨q34.trans (m5.below (by omega) (by simp; omega)), i + 1, b', by simp only; omega, by omega, by omega, ?_⟩ (by simp only; omega)
      rw [typesL_succ]
      exact o5
  · have hge := dec_f hge
    have : i = x.n.toNat := by omega
    subst this
    intro _
    exact hK v w3 b (by omega) (q1.trans (q3.mono hs1)) ho

end Go.Proofs.Ytkadckhealbdaaa
