/- The reading of laws_markInt64S, and its contract. No condition. -/
import Derived.Test.YtdkodhonaoecnaaTy
import Derived.Test.YtdkodhonaoecnaaS2Sl
namespace Go.Proofs.Ytdkodhonaoecnaa
open Go Go.RowKit Eng Mem
set_option linter.unusedVariables false
set_option maxRecDepth 100000
def B_laws_markInt64S_2 (a0 : Value) (k1 : Int) (i5 : Int) (N : Value → (Int × Int) → World → Prop) (D0 : (Int × Unit) → World → Prop) (w : World) : Prop :=
  (QAll Try.prog (Builtin.len_ #[25] 3 #[a0]) (.int .i64) fun (x8_1 : Int) => (((decide (i5 < x8_1)) = true → (QAll Try.prog (Instr.indexAt 25 a0 (.int .i64 i5)) .any fun (x15_2 : Value) => (PrU Try.prog (Instr.storeAt 2 x15_2 (.int .i64 k1)) w fun w_3 => N (a0 : Value) ((IntKind.i64.wrap (k1 + (1 : Int))), (IntKind.i64.wrap (i5 + (1 : Int)))) w_3))) ∧ ((decide (i5 < x8_1)) = false → D0 (k1, ()) w)))

abbrev L_laws_markInt64S_2_e0 : List Slot := [.junk, .k (.int .i64), .junk, .junk, .junk, .junk, .junk, .junk, .junk, .junk, .junk, .junk, .junk, .junk, .junk, .junk, .junk, .junk, .junk]

abbrev L_laws_markInt64S_2_sp : List Slot := [.k .any, .k (.int .i64), .junk, .junk, .junk, .k (.int .i64), .junk, .junk, .junk, .junk, .junk, .junk, .junk, .junk, .junk, .junk, .junk, .junk, .junk]
abbrev L_laws_markInt64S_2_ex : List (Nat × List Slot) := [(0, L_laws_markInt64S_2_e0)]
abbrev L_laws_markInt64S_2_rt : List Slot := [.junk, .junk, .junk, .junk, .junk, .junk, .junk, .junk, .junk, .junk, .junk, .junk, .junk, .junk, .junk, .junk, .junk, .junk, .junk]

def L_laws_markInt64S_2_b (Φ : Post) (u : Value) (N : Value → (Int × Int) → World → Prop) (s : (Int × Int)) (w : World) : Prop :=
  B_laws_markInt64S_2 u s.1 s.2 N (fun v w => ∀ j : Nat → Value, Φ (.exit 0) (mkT j 0 L_laws_markInt64S_2_e0 v) w) w

theorem L_laws_markInt64S_2_eq (j : Nat → Value) (u : Value) (s : (Int × Int)) (N : Value → (Int × Int) → World → Prop) (D0 : (Int × Unit) → World → Prop) (R : (Unit) → World → Prop) (w : World) :
    W Try.prog ty (fun _ _ _ _ => False) (loopAt Try.f33 2) (loopPost L_laws_markInt64S_2_sp [(0, (⟨L_laws_markInt64S_2_e0, D0⟩ : Door))] ⟨L_laws_markInt64S_2_rt, R⟩ (fun v w => N ((fun v => v.1) v) ((fun v => (v.2.1, v.2.2.1)) v) w)) (mkT j 0 L_laws_markInt64S_2_sp ((fun u s => (u, s.1, s.2, ())) u s)) w =
    B_laws_markInt64S_2 u s.1 s.2 N D0 w := by
  kernel_rfl

def O_laws_markInt64S_1 : Code → Post → List SV → World → Prop :=
  orc 2 (loopAt Try.f33 2) L_laws_markInt64S_2_sp (fun Φ fr w => LOOP (U := Value) (S := (Int × Int)) ((fun v => v.1) (extT L_laws_markInt64S_2_sp fr)) (L_laws_markInt64S_2_b Φ ((fun v => v.1) (extT L_laws_markInt64S_2_sp fr))) ((fun v => (v.2.1, v.2.2.1)) (extT L_laws_markInt64S_2_sp fr)) w) (fun _ _ _ _ => False)

theorem O_laws_markInt64S_1_ok : Sound Try.prog O_laws_markInt64S_1 :=
  orc_ok (sound_none _) fun Φ fr w hs h => loop_ok (ty := ty) follows (sound_none _) L_laws_markInt64S_2_sp (fun v => v.1) (fun v => (v.2.1, v.2.2.1)) (fun u s => (u, s.1, s.2, ())) (fun _ => rfl) L_laws_markInt64S_2_ex L_laws_markInt64S_2_rt (body := L_laws_markInt64S_2_b Φ) (fun j u s w N hb => by
    have e := L_laws_markInt64S_2_eq j u s N (doorOf Φ (.exit 0) L_laws_markInt64S_2_e0).D (doorOf Φ .ret L_laws_markInt64S_2_rt).D w
    exact Eq.mpr e hb) hs h

def V_laws_markInt64S (a0 : Value) (k1 : Int) (w : World) (K : Int → World → Prop) : Prop :=
  (At (loopAt Try.f33 2) (loopAt Try.f33 2) (LOOP (U := Value) (S := (Int × Int)) (a0 : Value) (fun N_8 s_9 w_10 => B_laws_markInt64S_2 (a0 : Value) s_9.1 s_9.2 N_8 (fun (v_5 : (Int × Unit)) w_6 => ∀ _j_7 : Nat → Value, K v_5.1 w_6) w_10) (k1, (0 : Int)) w))

theorem eq_laws_markInt64S (a0 : Value) (k1 : Int) (w : World) (K : Int → World → Prop) :
    W Try.prog ty O_laws_markInt64S_1 (bodyOf Try.f33) (fnPost Try.prog Try.f33.results.toList (.one (.int .i64)) K) (frame0 [a0, (.int .i64 k1)] 19) w = V_laws_markInt64S a0 k1 w K := by
  kernel_rfl

theorem body_laws_markInt64S : Try.f33.body = some (bodyOf Try.f33) := by kernel_rfl
theorem name_laws_markInt64S : (Try.f33.name == "runtime.NumGoroutine") = false := by kernel_rfl

theorem walk_laws_markInt64S (a0 : Value) (k1 : Int) {w : World} {K : Int → World → Prop} (h : V_laws_markInt64S a0 k1 w K) : Fc Try.prog 33 #[a0, (.int .i64 k1)] w (.one (.int .i64)) K :=
  fn_ok follows O_laws_markInt64S_1_ok Try.func33 name_laws_markInt64S body_laws_markInt64S Try.ntmps33 [a0, (.int .i64 k1)] (Eq.mpr (eq_laws_markInt64S a0 k1 w K) h)

-- uses S2Sl
theorem c_laws_markInt64S {a : Value} {l : List Int} {k : Int} {B E : Nat} {w : World} {K : Int → World → Prop} (h : MyI B E w a l) (h0 : 0 ≤ k) (h1 : k ≤ 1000)
    (hK : ∀ w', ModR B E w w' → MyI B E w' a (upto k l.length) → K (k + l.length) w') :
    Fc Try.prog F_laws_markInt64S #[a, .int .i64 k] w (.one (.int .i64)) K := by
  refine walk_laws_markInt64S _ _ ?_
  have hl := h.len
  rcases h with ⟨_, ⟨rfl, rfl⟩ | ⟨b, hb, he, ho⟩⟩
  · refine lp (fun s w' => s = (k, 0) ∧ w' = w) (fun _ _ => 0) ⟨rfl, rfl⟩ ?_
    rintro s w' N ⟨rfl, rfl⟩ hN
    unfold B_laws_markInt64S_2
    refine lenI (slI_nil w') ⟨fun h => by simp at h, fun _ _ => ?_⟩
    simpa [upto, myI_nil] using hK w' (ModR.refl _ _ _) (by simp [upto, myI_nil])
  · have hlen : ∀ i : Nat, i ≤ l.length → (upto k i ++ l.drop i).length = l.length := fun i hi => by simp [upto]; omega
    refine lp (fun s w' => 0 ≤ s.2 ∧ s.2 ≤ l.length ∧ s.1 = k + s.2 ∧ Mod [b] w w' ∧ OwnI w' b a (upto k s.2.toNat ++ l.drop s.2.toNat)) (fun s _ => (l.length - s.2).toNat)
      ⟨by simp, by simp, by simp, Mod.refl _ _, by simpa [upto] using ho⟩ ?_
    rintro ⟨k', i⟩ w' N ⟨i0, i1, hk, hm, hO⟩ hN
    simp only at i0 i1 hk hO
    subst hk
    unfold B_laws_markInt64S_2
    have hL := hlen i.toNat (by omega)
    refine lenI (own_slI hO (by omega)) ⟨fun hlt => ?_, fun hge => ?_⟩
    · rw [hL] at hlt
      have hlt := of_decide_eq_true hlt
      refine putI hO i0 (by omega) fun w2 m hs hO2 => ?_
      simp only
      rw [wrap_small (by omega) (by omega), wrap_small (by omega) (by omega)]
      refine hN _ _ ⟨by simp; omega, by simp; omega, by simp; omega, hm.trans m, ?_⟩ (by simp; omega)
      have : (upto k i.toNat ++ l.drop i.toNat).set i.toNat (k + i) = upto k (i + 1).toNat ++ l.drop (i + 1).toNat := by
        have := fill_step (xs := upto k l.length) (zs := l) (i := i.toNat) (by simp [upto]; omega) (by simp [upto])
        have ht : ∀ n, n ≤ l.length → (upto k l.length).take n = upto k n := fun n hn => by
          unfold upto
          rw [← List.map_take, List.take_range, Nat.min_eq_left hn]
        rw [ht _ (by omega), ht _ (by omega)] at this
        rw [show (i + 1).toNat = i.toNat + 1 from by omega, ← this]
        congr 1
        simp [upto, show i.toNat < l.length from by omega]
        omega
      rw [this] at hO2
      exact hO2
    · rw [hL] at hge
      have hge := of_decide_eq_false hge
      intro _
      have : i = l.length := by omega
      subst this
      rw [show ((l.length : Int)).toNat = l.length from by omega, List.drop_length, List.append_nil] at hO
      exact hK w' (hm.r hb he) (own_my hO (by simp [upto]; omega) hb he)

end Go.Proofs.Ytdkodhonaoecnaa
