/- The reading of spec_l01Ones, and its contract. No condition. -/
import Derived.Test.YtkadckhealbdaaaTy
import Derived.Test.YtkadckhealbdaaaS8Deg
namespace Go.Proofs.Ytkadckhealbdaaa
open Go Go.RowKit Eng Mem
set_option linter.unusedVariables false
set_option maxRecDepth 100000
def B_spec_l01Ones_2 (n0 : Int) (count3 : Int) (N : Unit → (Int × Int) → World → Prop) (D0 : (Int × Unit) → World → Prop) (w : World) : Prop :=
  (((decide (n0 > (0 : Int))) = true → ((2 : Int) ≠ 0 ∧ ((2 : Int) ≠ 0 ∧ N () ((IntKind.i64.wrap (Int.tdiv n0 (2 : Int))), (IntKind.i64.wrap (count3 + (Int.tmod n0 (2 : Int))))) w))) ∧ ((decide (n0 > (0 : Int))) = false → D0 (count3, ()) w))

abbrev L_spec_l01Ones_2_e0 : List Slot := [.junk, .junk, .junk, .k (.int .i64), .junk, .junk, .junk, .junk, .junk, .junk, .junk, .junk, .junk]

abbrev L_spec_l01Ones_2_sp : List Slot := [.k (.int .i64), .junk, .junk, .k (.int .i64), .junk, .junk, .junk, .junk, .junk, .junk, .junk, .junk, .junk]
abbrev L_spec_l01Ones_2_ex : List (Nat × List Slot) := [(0, L_spec_l01Ones_2_e0)]
abbrev L_spec_l01Ones_2_rt : List Slot := [.junk, .junk, .junk, .junk, .junk, .junk, .junk, .junk, .junk, .junk, .junk, .junk, .junk]

def L_spec_l01Ones_2_b (Φ : Post) (u : Unit) (N : Unit → (Int × Int) → World → Prop) (s : (Int × Int)) (w : World) : Prop :=
  B_spec_l01Ones_2 s.1 s.2 N (fun v w => ∀ j : Nat → Value, Φ (.exit 0) (mkT j 0 L_spec_l01Ones_2_e0 v) w) w

theorem L_spec_l01Ones_2_eq (j : Nat → Value) (u : Unit) (s : (Int × Int)) (N : Unit → (Int × Int) → World → Prop) (D0 : (Int × Unit) → World → Prop) (R : (Unit) → World → Prop) (w : World) :
    W Try.prog ty (fun _ _ _ _ => False) (loopAt Try.f116 2) (loopPost L_spec_l01Ones_2_sp [(0, (⟨L_spec_l01Ones_2_e0, D0⟩ : Door))] ⟨L_spec_l01Ones_2_rt, R⟩ (fun v w => N ((fun v => ()) v) ((fun v => (v.1, v.2.1)) v) w)) (mkT j 0 L_spec_l01Ones_2_sp ((fun u s => (s.1, s.2, ())) u s)) w =
    B_spec_l01Ones_2 s.1 s.2 N D0 w := by
  kernel_rfl

def O_spec_l01Ones_1 : Code → Post → List SV → World → Prop :=
  orc 2 (loopAt Try.f116 2) L_spec_l01Ones_2_sp (fun Φ fr w => LOOP (U := Unit) (S := (Int × Int)) ((fun v => ()) (extT L_spec_l01Ones_2_sp fr)) (L_spec_l01Ones_2_b Φ ((fun v => ()) (extT L_spec_l01Ones_2_sp fr))) ((fun v => (v.1, v.2.1)) (extT L_spec_l01Ones_2_sp fr)) w) (fun _ _ _ _ => False)

theorem O_spec_l01Ones_1_ok : Sound Try.prog O_spec_l01Ones_1 :=
  orc_ok (sound_none _) fun Φ fr w hs h => loop_ok (ty := ty) follows (sound_none _) L_spec_l01Ones_2_sp (fun v => ()) (fun v => (v.1, v.2.1)) (fun u s => (s.1, s.2, ())) (fun _ => rfl) L_spec_l01Ones_2_ex L_spec_l01Ones_2_rt (body := L_spec_l01Ones_2_b Φ) (fun j u s w N hb => by
    have e := L_spec_l01Ones_2_eq j u s N (doorOf Φ (.exit 0) L_spec_l01Ones_2_e0).D (doorOf Φ .ret L_spec_l01Ones_2_rt).D w
    exact Eq.mpr e hb) hs h

def V_spec_l01Ones (n0 : Int) (w : World) (K : Int → World → Prop) : Prop :=
  (At (loopAt Try.f116 2) (loopAt Try.f116 2) (LOOP (U := Unit) (S := (Int × Int)) () (fun N_4 s_5 w_6 => B_spec_l01Ones_2 s_5.1 s_5.2 N_4 (fun (v_1 : (Int × Unit)) w_2 => ∀ _j_3 : Nat → Value, K v_1.1 w_2) w_6) (n0, (0 : Int)) w))

theorem eq_spec_l01Ones (n0 : Int) (w : World) (K : Int → World → Prop) :
    W Try.prog ty O_spec_l01Ones_1 (bodyOf Try.f116) (fnPost Try.prog Try.f116.results.toList (.one (.int .i64)) K) (frame0 [(.int .i64 n0)] 13) w = V_spec_l01Ones n0 w K := by
  kernel_rfl

theorem body_spec_l01Ones : Try.f116.body = some (bodyOf Try.f116) := by kernel_rfl
theorem name_spec_l01Ones : (Try.f116.name == "runtime.NumGoroutine") = false := by kernel_rfl

theorem walk_spec_l01Ones (n0 : Int) {w : World} {K : Int → World → Prop} (h : V_spec_l01Ones n0 w K) : Fc Try.prog 116 #[(.int .i64 n0)] w (.one (.int .i64)) K :=
  fn_ok follows O_spec_l01Ones_1_ok Try.func116 name_spec_l01Ones body_spec_l01Ones Try.ntmps116 [(.int .i64 n0)] (Eq.mpr (eq_spec_l01Ones n0 w K) h)

-- uses S8Deg
theorem c_spec_l01Ones {n : Nat} {w : World} {K : Int → World → Prop} (hn : n < 2 ^ 62) (hK : K (onesN n : Int) w) : Fc Try.prog F_spec_l01Ones #[.int .i64 (n : Int)] w (.one (.int .i64)) K := by
  refine walk_spec_l01Ones _ ?_
  have hl := onesN_le hn
  refine lp (fun s w' => w' = w ∧ ∃ m : Nat, s.1 = m ∧ m < 2 ^ 62 ∧ 0 ≤ s.2 ∧ s.2 + onesN m = onesN n) (fun s _ => s.1.toNat) ⟨rfl, n, rfl, hn, by simp, by simp⟩ ?_
  rintro ⟨a, c⟩ w' N ⟨rfl, m, hm, hm2, c0, hc⟩ hN
  simp only at hm c0 hc
  subst hm
  unfold B_spec_l01Ones_2
  dsimp only
  refine ⟨fun h => ⟨by decide, by decide, ?_⟩, fun h => ?_⟩
  · have h := dec_t h
    have hs := onesN_step m
    rw [show Int.tdiv (m : Int) 2 = ((m / 2 : Nat) : Int) from by rw [Int.tdiv_eq_ediv_of_nonneg (by omega)]; omega, show Int.tmod (m : Int) 2 = ((m % 2 : Nat) : Int) from by rw [Int.tmod_eq_emod_of_nonneg (by omega)]; omega,
      wrap_small (n := ((m / 2 : Nat) : Int)) (by omega) (by omega), wrap_small (by omega) (by omega)]
    exact hN _ _ ⟨rfl, m / 2, rfl, by omega, by simp only; omega, by simp only; omega⟩ (by simp only; omega)
  · have h := dec_f h
    have : m = 0 := by omega
    subst this
    intro _
    rw [show c = (onesN n : Int) from by have : onesN 0 = 0 := by simp [onesN]
                                         omega]
    exact hK

end Go.Proofs.Ytkadckhealbdaaa
