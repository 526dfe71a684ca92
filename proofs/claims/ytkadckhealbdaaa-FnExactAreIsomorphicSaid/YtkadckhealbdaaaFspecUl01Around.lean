/- The reading of spec_l01Around, and its contract. No condition. -/
import Derived.Test.YtkadckhealbdaaaTy
import Derived.Test.YtkadckhealbdaaaS8Deg
import Derived.Test.YtkadckhealbdaaaS7Dig
import Derived.Test.YtkadckhealbdaaaFspecUl01At
namespace Go.Proofs.Ytkadckhealbdaaa
open Go Go.RowKit Eng Mem
set_option linter.unusedVariables false
set_option maxRecDepth 100000
def B_spec_l01Around_3 (i1 : Int) (c2 : Int) (x3 : Value) (set7 : Int) (j8 : Int) (N : (Int × Int × Value) → (Int × Int) → World → Prop) (D0 : (Int × Unit) → World → Prop) (w : World) : Prop :=
  (QAll Try.prog (Instr.fieldAt 25 x3 0) .any fun (x10_3 : Value) => (QSub Try.prog (Instr.loadAt 2 x10_3) w (.int .i64) fun (x11_4 : Int) => (((decide (j8 < x11_4)) = true → (((j8 != i1) = true → (QSub Try.prog (Instr.loadAt 25 x3) w .any fun (x19_5 : Value) => (Fc Try.prog 118 #[x19_5, (.int .i64 i1), (.int .i64 j8)] w (.one (.int .i64)) fun (x22_7 : Int) w_6 => (((x22_7 == c2) = true → (QAll Try.prog (convert 2 102 (.int .i64 j8)) (.int .u64) fun (x28_8 : Int) => (0 ≤ x28_8 ∧ N (i1, c2, (x3 : Value)) ((IntKind.i64.wrap ((BitVec.toNat (BitVec.ofInt (IntKind.bits .i64) set7 ||| BitVec.ofInt (IntKind.bits .i64) (IntKind.i64.wrap ((1 : Int) * 2 ^ min (Int.toNat x28_8) 64))) : Nat))), (IntKind.i64.wrap (j8 + (1 : Int)))) w_6))) ∧ ((x22_7 == c2) = false → N (i1, c2, (x3 : Value)) (set7, (IntKind.i64.wrap (j8 + (1 : Int)))) w_6))))) ∧ ((j8 != i1) = false → N (i1, c2, (x3 : Value)) (set7, (IntKind.i64.wrap (j8 + (1 : Int)))) w))) ∧ ((decide (j8 < x11_4)) = false → D0 (set7, ()) w))))

abbrev L_spec_l01Around_3_e0 : List Slot := [.junk, .junk, .junk, .junk, .junk, .junk, .junk, .k (.int .i64), .junk, .junk, .junk, .junk, .junk, .junk, .junk, .junk, .junk, .junk, .junk, .junk, .junk, .junk, .junk, .junk, .junk, .junk, .junk, .junk, .junk, .junk, .junk, .junk]

abbrev L_spec_l01Around_3_sp : List Slot := [.junk, .k (.int .i64), .k (.int .i64), .k .any, .junk, .junk, .junk, .k (.int .i64), .k (.int .i64), .junk, .junk, .junk, .junk, .junk, .junk, .junk, .junk, .junk, .junk, .junk, .junk, .junk, .junk, .junk, .junk, .junk, .junk, .junk, .junk, .junk, .junk, .junk]
abbrev L_spec_l01Around_3_ex : List (Nat × List Slot) := [(0, L_spec_l01Around_3_e0)]
abbrev L_spec_l01Around_3_rt : List Slot := [.junk, .junk, .junk, .junk, .junk, .junk, .junk, .junk, .junk, .junk, .junk, .junk, .junk, .junk, .junk, .junk, .junk, .junk, .junk, .junk, .junk, .junk, .junk, .junk, .junk, .junk, .junk, .junk, .junk, .junk, .junk, .junk]

def L_spec_l01Around_3_b (Φ : Post) (u : (Int × Int × Value)) (N : (Int × Int × Value) → (Int × Int) → World → Prop) (s : (Int × Int)) (w : World) : Prop :=
  B_spec_l01Around_3 u.1 u.2.1 u.2.2 s.1 s.2 N (fun v w => ∀ j : Nat → Value, Φ (.exit 0) (mkT j 0 L_spec_l01Around_3_e0 v) w) w

theorem L_spec_l01Around_3_eq (j : Nat → Value) (u : (Int × Int × Value)) (s : (Int × Int)) (N : (Int × Int × Value) → (Int × Int) → World → Prop) (D0 : (Int × Unit) → World → Prop) (R : (Unit) → World → Prop) (w : World) :
    W Try.prog ty (fun _ _ _ _ => False) (loopAt Try.f117 3) (loopPost L_spec_l01Around_3_sp [(0, (⟨L_spec_l01Around_3_e0, D0⟩ : Door))] ⟨L_spec_l01Around_3_rt, R⟩ (fun v w => N ((fun v => (v.1, v.2.1, v.2.2.1)) v) ((fun v => (v.2.2.2.1, v.2.2.2.2.1)) v) w)) (mkT j 0 L_spec_l01Around_3_sp ((fun u s => (u.1, u.2.1, u.2.2, s.1, s.2, ())) u s)) w =
    B_spec_l01Around_3 u.1 u.2.1 u.2.2 s.1 s.2 N D0 w := by
  kernel_rfl

def O_spec_l01Around_1 : Code → Post → List SV → World → Prop :=
  orc 3 (loopAt Try.f117 3) L_spec_l01Around_3_sp (fun Φ fr w => LOOP (U := (Int × Int × Value)) (S := (Int × Int)) ((fun v => (v.1, v.2.1, v.2.2.1)) (extT L_spec_l01Around_3_sp fr)) (L_spec_l01Around_3_b Φ ((fun v => (v.1, v.2.1, v.2.2.1)) (extT L_spec_l01Around_3_sp fr))) ((fun v => (v.2.2.2.1, v.2.2.2.2.1)) (extT L_spec_l01Around_3_sp fr)) w) (fun _ _ _ _ => False)

theorem O_spec_l01Around_1_ok : Sound Try.prog O_spec_l01Around_1 :=
  orc_ok (sound_none _) fun Φ fr w hs h => loop_ok (ty := ty) follows (sound_none _) L_spec_l01Around_3_sp (fun v => (v.1, v.2.1, v.2.2.1)) (fun v => (v.2.2.2.1, v.2.2.2.2.1)) (fun u s => (u.1, u.2.1, u.2.2, s.1, s.2, ())) (fun _ => rfl) L_spec_l01Around_3_ex L_spec_l01Around_3_rt (body := L_spec_l01Around_3_b Φ) (fun j u s w N hb => by
    have e := L_spec_l01Around_3_eq j u s N (doorOf Φ (.exit 0) L_spec_l01Around_3_e0).D (doorOf Φ .ret L_spec_l01Around_3_rt).D w
    exact Eq.mpr e hb) hs h

def V_spec_l01Around (x0 : Value) (i1 : Int) (c2 : Int) (w : World) (K : Int → World → Prop) : Prop :=
  (Pr Try.prog (Instr.box 25 x0) w (.one .any) fun (x3_2 : Value) w_1 => (At (loopAt Try.f117 3) (loopAt Try.f117 3) (LOOP (U := (Int × Int × Value)) (S := (Int × Int)) (i1, c2, (x3_2 : Value)) (fun N_12 s_13 w_14 => B_spec_l01Around_3 i1 c2 (x3_2 : Value) s_13.1 s_13.2 N_12 (fun (v_9 : (Int × Unit)) w_10 => ∀ _j_11 : Nat → Value, K v_9.1 w_10) w_14) ((0 : Int), (0 : Int)) w_1)))

theorem eq_spec_l01Around (x0 : Value) (i1 : Int) (c2 : Int) (w : World) (K : Int → World → Prop) :
    W Try.prog ty O_spec_l01Around_1 (bodyOf Try.f117) (fnPost Try.prog Try.f117.results.toList (.one (.int .i64)) K) (frame0 [x0, (.int .i64 i1), (.int .i64 c2)] 32) w = V_spec_l01Around x0 i1 c2 w K := by
  kernel_rfl

theorem body_spec_l01Around : Try.f117.body = some (bodyOf Try.f117) := by kernel_rfl
theorem name_spec_l01Around : (Try.f117.name == "runtime.NumGoroutine") = false := by kernel_rfl

theorem walk_spec_l01Around (x0 : Value) (i1 : Int) (c2 : Int) {w : World} {K : Int → World → Prop} (h : V_spec_l01Around x0 i1 c2 w K) : Fc Try.prog 117 #[x0, (.int .i64 i1), (.int .i64 c2)] w (.one (.int .i64)) K :=
  fn_ok follows O_spec_l01Around_1_ok Try.func117 name_spec_l01Around body_spec_l01Around Try.ntmps117 [x0, (.int .i64 i1), (.int .i64 c2)] (Eq.mpr (eq_spec_l01Around x0 i1 c2 w K) h)

-- uses S8Deg
-- uses S7Dig
theorem wshl {j : Int} (h0 : 0 ≤ j) (h1 : j < 62) : IntKind.i64.wrap (1 * 2 ^ min (Int.toNat j) 64) = ((2 ^ j.toNat : Nat) : Int) := by
  have e : ((2 : Int) ^ j.toNat) = ((2 ^ j.toNat : Nat) : Int) := by simp
  have : 2 ^ j.toNat ≤ 2 ^ 61 := Nat.pow_le_pow_right (by omega) (by omega)
  rw [Nat.min_eq_left (by omega), Int.one_mul, e]
  generalize 2 ^ j.toNat = t at this
  exact wrap_small (by omega) (by omega)
theorem c_spec_l01Around {c : Col} {i col : Int} {w : World} {K : Int → World → Prop} (hc : c.Ok) (h0 : 0 ≤ i) (h1 : i < 17) (n1 : c.n ≤ 17) (hK : ∀ w', Below w.heap.size w w' → K (bitsN (fun j => joinB c i j col) c.n.toNat : Nat) w') :
    Fc Try.prog F_spec_l01Around #[c.val, .int .i64 i, .int .i64 col] w (.one (.int .i64)) K := by
  refine walk_spec_l01Around _ _ _ (col_box fun b w1 m1 hx => ?_)
  have q1 := m1.below
  refine lp (fun s w' => Below w1.heap.size w1 w' ∧ ∃ j : Nat, s.2 = j ∧ j ≤ c.n.toNat ∧ s.1 = (bitsN (fun j => joinB c i j col) j : Nat)) (fun s _ => (17 - s.2).toNat) ⟨Below.refl _ _, 0, rfl, by omega, by simp [bitsN]⟩ ?_
  rintro ⟨a, t⟩ w2 N ⟨q2, j, hj, hjn, ha⟩ hN
  simp only at hj ha
  subst hj; subst ha
  unfold B_spec_l01Around_3
  dsimp only
  have hx2 := hx.keep q2
  refine col_n hx2 ⟨fun h => ?_, fun h => ?_⟩
  · have h := dec_t h
    have hlt := bitsN_lt (fun j => joinB c i j col) j
    have hp : 2 ^ j ≤ 2 ^ 17 := Nat.pow_le_pow_right (by omega) (by omega)
    have hs : bitsN (fun j => joinB c i j col) (j + 1) = bitsN (fun j => joinB c i j col) j + if joinB c i j col then 2 ^ j else 0 := rfl
    have no : joinB c i j col = false → ∀ w', Below w1.heap.size w1 w' → N (i, col, ptr b 0) (((bitsN (fun j => joinB c i j col) j : Nat) : Int), IntKind.i64.wrap ((j : Int) + 1)) w' := fun hf w' hb => by
      rw [wrap_small (by omega) (by omega)]
      refine hN _ _ ⟨hb, j + 1, by simp only; omega, by omega, ?_⟩ (by simp only; omega)
      simp only [hs, hf]
      simp
    refine ⟨fun hne => ?_, fun he => ?_⟩
    · have hne := ne_t hne
      refine col_all hc hx2 (c_spec_l01At hc h0 h1 (by omega) (by omega) (Ne.symm hne) fun w3 hb3 => ?_)
      have q3 := q2.trans (hb3.mono q2.size)
      refine ⟨fun hcol => ?_, fun hcol => ?_⟩
      · have hcol := eq_t hcol
        have hyes : joinB c i j col = true := by simp only [joinB, decide_eq_true_eq]; exact ⟨Ne.symm hne, hcol⟩
        refine int_u64 (by omega) (by omega) ⟨by omega, ?_⟩
        have hor := bitsN_or hlt
        rw [wshl (by omega) (by omega), Int.toNat_natCast]
        generalize 2 ^ j = T at hs hlt hp hor ⊢
        rw [wor (by omega) (by omega) (by omega) (by omega), wrap_small (n := (j : Int) + 1) (by omega) (by omega)]
        refine hN _ _ ⟨q3, j + 1, by simp only; omega, by omega, ?_⟩ (by simp only; omega)
        simp only [hs, hyes, if_true, Int.toNat_natCast, hor]
      · exact no (by simp only [joinB, decide_eq_false_iff_not]; exact fun hh => eq_f hcol hh.2) w3 q3
    · exact no (by simp only [joinB, decide_eq_false_iff_not]; exact fun hh => hh.1 (ne_f he).symm) w2 q2
  · have h := dec_f h
    intro _
    have : j = c.n.toNat := by omega
    subst this
    exact hK w2 (q1.trans (q2.mono q1.size))

end Go.Proofs.Ytkadckhealbdaaa
