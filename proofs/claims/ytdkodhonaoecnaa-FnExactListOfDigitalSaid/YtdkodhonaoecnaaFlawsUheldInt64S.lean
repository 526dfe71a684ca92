/- The reading of laws_heldInt64S, and its contract. No condition. -/
import Derived.Test.YtdkodhonaoecnaaTy
import Derived.Test.YtdkodhonaoecnaaS2Sl
namespace Go.Proofs.Ytdkodhonaoecnaa
open Go Go.RowKit Eng Mem
set_option linter.unusedVariables false
set_option maxRecDepth 100000
def B_laws_heldInt64S_2 (a0 : Value) (k1 : Int) (i5 : Int) (N : Value → (Int × Int) → World → Prop) (D0 : (Int × Unit) → World → Prop) (R : (Int × Unit) → World → Prop) (w : World) : Prop :=
  (QAll Try.prog (Builtin.len_ #[25] 3 #[a0]) (.int .i64) fun (x8_1 : Int) => (((decide (i5 < x8_1)) = true → (QAll Try.prog (Instr.indexAt 25 a0 (.int .i64 i5)) .any fun (x14_2 : Value) => (QSub Try.prog (Instr.loadAt 2 x14_2) w (.int .i64) fun (x15_3 : Int) => (((x15_3 != k1) = true → R ((-1 : Int), ()) w) ∧ ((x15_3 != k1) = false → N (a0 : Value) ((IntKind.i64.wrap (k1 + (1 : Int))), (IntKind.i64.wrap (i5 + (1 : Int)))) w))))) ∧ ((decide (i5 < x8_1)) = false → D0 (k1, ()) w)))

abbrev L_laws_heldInt64S_2_e0 : List Slot := [.junk, .k (.int .i64), .junk, .junk, .junk, .junk, .junk, .junk, .junk, .junk, .junk, .junk, .junk, .junk, .junk, .junk, .junk, .junk, .junk, .junk, .junk]

abbrev L_laws_heldInt64S_2_sp : List Slot := [.k .any, .k (.int .i64), .junk, .junk, .junk, .k (.int .i64), .junk, .junk, .junk, .junk, .junk, .junk, .junk, .junk, .junk, .junk, .junk, .junk, .junk, .junk, .junk]
abbrev L_laws_heldInt64S_2_ex : List (Nat × List Slot) := [(0, L_laws_heldInt64S_2_e0)]
abbrev L_laws_heldInt64S_2_rt : List Slot := [.junk, .junk, .junk, .junk, .k (.int .i64), .junk, .junk, .junk, .junk, .junk, .junk, .junk, .junk, .junk, .junk, .junk, .junk, .junk, .junk, .junk, .junk]

def L_laws_heldInt64S_2_b (Φ : Post) (u : Value) (N : Value → (Int × Int) → World → Prop) (s : (Int × Int)) (w : World) : Prop :=
  B_laws_heldInt64S_2 u s.1 s.2 N (fun v w => ∀ j : Nat → Value, Φ (.exit 0) (mkT j 0 L_laws_heldInt64S_2_e0 v) w) (fun v w => ∀ j : Nat → Value, Φ .ret (mkT j 0 L_laws_heldInt64S_2_rt v) w) w

theorem L_laws_heldInt64S_2_eq (j : Nat → Value) (u : Value) (s : (Int × Int)) (N : Value → (Int × Int) → World → Prop) (D0 : (Int × Unit) → World → Prop) (R : (Int × Unit) → World → Prop) (w : World) :
    W Try.prog ty (fun _ _ _ _ => False) (loopAt Try.f34 2) (loopPost L_laws_heldInt64S_2_sp [(0, (⟨L_laws_heldInt64S_2_e0, D0⟩ : Door))] ⟨L_laws_heldInt64S_2_rt, R⟩ (fun v w => N ((fun v => v.1) v) ((fun v => (v.2.1, v.2.2.1)) v) w)) (mkT j 0 L_laws_heldInt64S_2_sp ((fun u s => (u, s.1, s.2, ())) u s)) w =
    B_laws_heldInt64S_2 u s.1 s.2 N D0 R w := by
  kernel_rfl

def O_laws_heldInt64S_1 : Code → Post → List SV → World → Prop :=
  orc 2 (loopAt Try.f34 2) L_laws_heldInt64S_2_sp (fun Φ fr w => LOOP (U := Value) (S := (Int × Int)) ((fun v => v.1) (extT L_laws_heldInt64S_2_sp fr)) (L_laws_heldInt64S_2_b Φ ((fun v => v.1) (extT L_laws_heldInt64S_2_sp fr))) ((fun v => (v.2.1, v.2.2.1)) (extT L_laws_heldInt64S_2_sp fr)) w) (fun _ _ _ _ => False)

theorem O_laws_heldInt64S_1_ok : Sound Try.prog O_laws_heldInt64S_1 :=
  orc_ok (sound_none _) fun Φ fr w hs h => loop_ok (ty := ty) follows (sound_none _) L_laws_heldInt64S_2_sp (fun v => v.1) (fun v => (v.2.1, v.2.2.1)) (fun u s => (u, s.1, s.2, ())) (fun _ => rfl) L_laws_heldInt64S_2_ex L_laws_heldInt64S_2_rt (body := L_laws_heldInt64S_2_b Φ) (fun j u s w N hb => by
    have e := L_laws_heldInt64S_2_eq j u s N (doorOf Φ (.exit 0) L_laws_heldInt64S_2_e0).D (doorOf Φ .ret L_laws_heldInt64S_2_rt).D w
    exact Eq.mpr e hb) hs h

def V_laws_heldInt64S (a0 : Value) (k1 : Int) (w : World) (K : Int → World → Prop) : Prop :=
  (At (loopAt Try.f34 2) (loopAt Try.f34 2) (LOOP (U := Value) (S := (Int × Int)) (a0 : Value) (fun N_10 s_11 w_12 => B_laws_heldInt64S_2 (a0 : Value) s_11.1 s_11.2 N_10 (fun (v_4 : (Int × Unit)) w_5 => ∀ _j_6 : Nat → Value, K v_4.1 w_5) (fun (v_7 : (Int × Unit)) w_8 => ∀ _j_9 : Nat → Value, K v_7.1 w_8) w_12) (k1, (0 : Int)) w))

theorem eq_laws_heldInt64S (a0 : Value) (k1 : Int) (w : World) (K : Int → World → Prop) :
    W Try.prog ty O_laws_heldInt64S_1 (bodyOf Try.f34) (fnPost Try.prog Try.f34.results.toList (.one (.int .i64)) K) (frame0 [a0, (.int .i64 k1)] 21) w = V_laws_heldInt64S a0 k1 w K := by
  kernel_rfl

theorem body_laws_heldInt64S : Try.f34.body = some (bodyOf Try.f34) := by kernel_rfl
theorem name_laws_heldInt64S : (Try.f34.name == "runtime.NumGoroutine") = false := by kernel_rfl

theorem walk_laws_heldInt64S (a0 : Value) (k1 : Int) {w : World} {K : Int → World → Prop} (h : V_laws_heldInt64S a0 k1 w K) : Fc Try.prog 34 #[a0, (.int .i64 k1)] w (.one (.int .i64)) K :=
  fn_ok follows O_laws_heldInt64S_1_ok Try.func34 name_laws_heldInt64S body_laws_heldInt64S Try.ntmps34 [a0, (.int .i64 k1)] (Eq.mpr (eq_laws_heldInt64S a0 k1 w K) h)

-- uses S2Sl
theorem c_laws_heldInt64S {a : Value} {k : Int} {n B E : Nat} {w : World} {K : Int → World → Prop} (hm : MyI B E w a (upto k n)) (h0 : 0 ≤ k) (h1 : k ≤ 1000) (hK : ∀ w', Below w.heap.size w w' → K (k + n) w') :
    Fc Try.prog F_laws_heldInt64S #[a, .int .i64 k] w (.one (.int .i64)) K := by
  have hL : (upto k n).length = n := by simp [upto]
  have hn := hm.len
  rw [hL] at hn
  have h := hm.sl
  refine walk_laws_heldInt64S _ _ ?_
  refine lp (fun s w' => 0 ≤ s.2 ∧ s.2 ≤ n ∧ s.1 = k + s.2 ∧ Below w.heap.size w w') (fun s _ => (n - s.2).toNat) ⟨by simp, by simp, by simp, Below.refl _ _⟩ ?_
  rintro ⟨k', i⟩ w' N ⟨i0, i1, hk, hb⟩ hN
  simp only at i0 i1 hk
  subst hk
  unfold B_laws_heldInt64S_2
  have h' := h.keep hb
  refine lenI h' ⟨fun hlt => ?_, fun hge => ?_⟩
  · rw [hL] at hlt
    have hlt := of_decide_eq_true hlt
    refine atI h' i0 (by rw [hL]; exact hlt) ?_
    have hv : (upto k n).getD i.toNat 0 = k + i := by simp [upto, List.getD, show i.toNat < n from by omega]; omega
    rw [hv]
    refine ⟨fun hne => by simp at hne, fun _ => ?_⟩
    simp only
    rw [wrap_small (by omega) (by omega), wrap_small (by omega) (by omega)]
    exact hN _ _ ⟨by simp; omega, by simp; omega, by simp; omega, hb⟩ (by simp; omega)
  · rw [hL] at hge
    have hge := of_decide_eq_false hge
    intro _
    have : i = n := by omega
    subst this
    exact hK w' hb

end Go.Proofs.Ytdkodhonaoecnaa
