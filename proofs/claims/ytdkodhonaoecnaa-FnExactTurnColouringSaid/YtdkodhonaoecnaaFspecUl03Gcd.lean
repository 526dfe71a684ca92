/- The reading of spec_l03Gcd, and its contract. No condition. -/
import Derived.Test.YtdkodhonaoecnaaTy
import Derived.Test.YtdkodhonaoecnaaS8Ren
namespace Go.Proofs.Ytdkodhonaoecnaa
open Go Go.RowKit Eng Mem
set_option linter.unusedVariables false
set_option maxRecDepth 100000
def B_spec_l03Gcd_1 (a0 : Int) (b1 : Int) (N : Unit → (Int × Int) → World → Prop) (D0 : (Int × Unit) → World → Prop) (w : World) : Prop :=
  (((b1 != (0 : Int)) = true → (b1 ≠ 0 ∧ N () (b1, (Int.tmod a0 b1)) w)) ∧ ((b1 != (0 : Int)) = false → D0 (a0, ()) w))

abbrev L_spec_l03Gcd_1_e0 : List Slot := [.k (.int .i64), .junk, .junk, .junk, .junk, .junk, .junk, .junk, .junk, .junk, .junk, .junk, .junk, .junk]

abbrev L_spec_l03Gcd_1_sp : List Slot := [.k (.int .i64), .k (.int .i64), .junk, .junk, .junk, .junk, .junk, .junk, .junk, .junk, .junk, .junk, .junk, .junk]
abbrev L_spec_l03Gcd_1_ex : List (Nat × List Slot) := [(0, L_spec_l03Gcd_1_e0)]
abbrev L_spec_l03Gcd_1_rt : List Slot := [.junk, .junk, .junk, .junk, .junk, .junk, .junk, .junk, .junk, .junk, .junk, .junk, .junk, .junk]

def L_spec_l03Gcd_1_b (Φ : Post) (u : Unit) (N : Unit → (Int × Int) → World → Prop) (s : (Int × Int)) (w : World) : Prop :=
  B_spec_l03Gcd_1 s.1 s.2 N (fun v w => ∀ j : Nat → Value, Φ (.exit 0) (mkT j 0 L_spec_l03Gcd_1_e0 v) w) w

theorem L_spec_l03Gcd_1_eq (j : Nat → Value) (u : Unit) (s : (Int × Int)) (N : Unit → (Int × Int) → World → Prop) (D0 : (Int × Unit) → World → Prop) (R : (Unit) → World → Prop) (w : World) :
    W Try.prog ty (fun _ _ _ _ => False) (loopAt Try.f87 1) (loopPost L_spec_l03Gcd_1_sp [(0, (⟨L_spec_l03Gcd_1_e0, D0⟩ : Door))] ⟨L_spec_l03Gcd_1_rt, R⟩ (fun v w => N ((fun v => ()) v) ((fun v => (v.1, v.2.1)) v) w)) (mkT j 0 L_spec_l03Gcd_1_sp ((fun u s => (s.1, s.2, ())) u s)) w =
    B_spec_l03Gcd_1 s.1 s.2 N D0 w := by
  kernel_rfl

def O_spec_l03Gcd_1 : Code → Post → List SV → World → Prop :=
  orc 1 (loopAt Try.f87 1) L_spec_l03Gcd_1_sp (fun Φ fr w => LOOP (U := Unit) (S := (Int × Int)) ((fun v => ()) (extT L_spec_l03Gcd_1_sp fr)) (L_spec_l03Gcd_1_b Φ ((fun v => ()) (extT L_spec_l03Gcd_1_sp fr))) ((fun v => (v.1, v.2.1)) (extT L_spec_l03Gcd_1_sp fr)) w) (fun _ _ _ _ => False)

theorem O_spec_l03Gcd_1_ok : Sound Try.prog O_spec_l03Gcd_1 :=
  orc_ok (sound_none _) fun Φ fr w hs h => loop_ok (ty := ty) follows (sound_none _) L_spec_l03Gcd_1_sp (fun v => ()) (fun v => (v.1, v.2.1)) (fun u s => (s.1, s.2, ())) (fun _ => rfl) L_spec_l03Gcd_1_ex L_spec_l03Gcd_1_rt (body := L_spec_l03Gcd_1_b Φ) (fun j u s w N hb => by
    have e := L_spec_l03Gcd_1_eq j u s N (doorOf Φ (.exit 0) L_spec_l03Gcd_1_e0).D (doorOf Φ .ret L_spec_l03Gcd_1_rt).D w
    exact Eq.mpr e hb) hs h

def V_spec_l03Gcd (a0 : Int) (b1 : Int) (w : World) (K : Int → World → Prop) : Prop :=
  (At (loopAt Try.f87 1) (loopAt Try.f87 1) (LOOP (U := Unit) (S := (Int × Int)) () (fun N_4 s_5 w_6 => B_spec_l03Gcd_1 s_5.1 s_5.2 N_4 (fun (v_1 : (Int × Unit)) w_2 => ∀ _j_3 : Nat → Value, K v_1.1 w_2) w_6) (a0, b1) w))

theorem eq_spec_l03Gcd (a0 : Int) (b1 : Int) (w : World) (K : Int → World → Prop) :
    W Try.prog ty O_spec_l03Gcd_1 (bodyOf Try.f87) (fnPost Try.prog Try.f87.results.toList (.one (.int .i64)) K) (frame0 [(.int .i64 a0), (.int .i64 b1)] 14) w = V_spec_l03Gcd a0 b1 w K := by
  kernel_rfl

theorem body_spec_l03Gcd : Try.f87.body = some (bodyOf Try.f87) := by kernel_rfl
theorem name_spec_l03Gcd : (Try.f87.name == "runtime.NumGoroutine") = false := by kernel_rfl

theorem walk_spec_l03Gcd (a0 : Int) (b1 : Int) {w : World} {K : Int → World → Prop} (h : V_spec_l03Gcd a0 b1 w K) : Fc Try.prog 87 #[(.int .i64 a0), (.int .i64 b1)] w (.one (.int .i64)) K :=
  fn_ok follows O_spec_l03Gcd_1_ok Try.func87 name_spec_l03Gcd body_spec_l03Gcd Try.ntmps87 [(.int .i64 a0), (.int .i64 b1)] (Eq.mpr (eq_spec_l03Gcd a0 b1 w K) h)

-- uses S8Ren
theorem c_spec_l03Gcd {a b : Nat} {w : World} {K : Int → World → Prop} (ha : a ≤ 1000) (hb : b ≤ 1000) (hK : ∀ w', Below w.heap.size w w' → K (Nat.gcd a b : Nat) w') : Fc Try.prog F_spec_l03Gcd #[.int .i64 (a : Int), .int .i64 (b : Int)] w (.one (.int .i64)) K := by
  refine walk_spec_l03Gcd _ _ ?_
  refine lp (fun s w' => Below w.heap.size w w' ∧ ∃ a' b' : Nat, s.1 = a' ∧ s.2 = b' ∧ Nat.gcd a' b' = Nat.gcd a b) (fun s _ => s.2.toNat) ⟨Below.refl _ _, a, b, rfl, rfl, rfl⟩ ?_
  rintro ⟨x, y⟩ w2 N ⟨q2, a', b', hx, hy, hg⟩ hN
  simp only at hx hy
  subst hx; subst hy
  unfold B_spec_l03Gcd_1
  dsimp only
  refine ⟨fun h => ?_, fun h => ?_⟩
  · have h := ne_t h
    have hb0 : 0 < b' := by omega
    have := Nat.mod_lt a' hb0
    refine ⟨h, hN _ _ ⟨q2, b', a' % b', rfl, by simp only; rw [Int.tmod_eq_emod_of_nonneg (by omega)]; exact (Int.natCast_emod a' b').symm, by rw [← hg, Nat.gcd_comm a' b', Nat.gcd_rec b' a', Nat.gcd_comm]⟩ ?_⟩
    simp only
    rw [Int.tmod_eq_emod_of_nonneg (by omega), ← Int.natCast_emod]
    omega
  · have h := ne_f h
    have : b' = 0 := by omega
    subst this
    intro _
    rw [Nat.gcd_zero_right] at hg
    rw [hg]
    exact hK w2 q2

end Go.Proofs.Ytdkodhonaoecnaa
