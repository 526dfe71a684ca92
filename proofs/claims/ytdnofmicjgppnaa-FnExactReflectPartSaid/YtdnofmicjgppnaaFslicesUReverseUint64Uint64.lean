/- The reading of slices_Reverse_int64_int64, and its contract. No condition. -/
import Derived.Test.YtdnofmicjgppnaaTy
import Derived.Test.YtdnofmicjgppnaaS2Sl
namespace Go.Proofs.Ytdnofmicjgppnaa
open Go Go.RowKit Eng Mem
set_option linter.unusedVariables false
set_option maxRecDepth 100000
def B_slices_Reverse_int64_int64_1 (s0 : Value) (i2 : Int) (j3 : Int) (N : Value → (Int × Int) → World → Prop) (D0 : (Unit) → World → Prop) (w : World) : Prop :=
  (((decide (i2 < j3)) = true → (∀ w_2, Drew w w_2 → (QAll Try.prog (Instr.indexAt 22 s0 (.int .i64 j3)) .any fun (x20_3 : Value) => (QSub Try.prog (Instr.loadAt 2 x20_3) w_2 (.int .i64) fun (x21_4 : Int) => (QAll Try.prog (Instr.indexAt 22 s0 (.int .i64 i2)) .any fun (x24_5 : Value) => (QSub Try.prog (Instr.loadAt 2 x24_5) w_2 (.int .i64) fun (x25_6 : Int) => (QAll Try.prog (Instr.indexAt 22 s0 (.int .i64 i2)) .any fun (x26_7 : Value) => (PrU Try.prog (Instr.storeAt 2 x26_7 (.int .i64 x21_4)) w_2 fun w_8 => (QAll Try.prog (Instr.indexAt 22 s0 (.int .i64 j3)) .any fun (x27_10 : Value) => (PrU Try.prog (Instr.storeAt 2 x27_10 (.int .i64 x25_6)) w_8 fun w_11 => N (s0 : Value) ((IntKind.i64.wrap (i2 + (1 : Int))), (IntKind.i64.wrap (j3 - (1 : Int)))) w_11)))))))))) ∧ ((decide (i2 < j3)) = false → D0 () w))

abbrev L_slices_Reverse_int64_int64_1_e0 : List Slot := [.junk, .junk, .junk, .junk, .junk, .junk, .junk, .junk, .junk, .junk, .junk, .junk, .junk, .junk, .junk, .junk, .junk, .junk, .junk, .junk, .junk, .junk, .junk, .junk, .junk, .junk, .junk, .junk]

abbrev L_slices_Reverse_int64_int64_1_sp : List Slot := [.k .any, .junk, .k (.int .i64), .k (.int .i64), .junk, .junk, .junk, .junk, .junk, .junk, .junk, .junk, .junk, .junk, .junk, .junk, .junk, .junk, .junk, .junk, .junk, .junk, .junk, .junk, .junk, .junk, .junk, .junk]
abbrev L_slices_Reverse_int64_int64_1_ex : List (Nat × List Slot) := [(0, L_slices_Reverse_int64_int64_1_e0)]
abbrev L_slices_Reverse_int64_int64_1_rt : List Slot := [.junk, .junk, .junk, .junk, .junk, .junk, .junk, .junk, .junk, .junk, .junk, .junk, .junk, .junk, .junk, .junk, .junk, .junk, .junk, .junk, .junk, .junk, .junk, .junk, .junk, .junk, .junk, .junk]

def L_slices_Reverse_int64_int64_1_b (Φ : Post) (u : Value) (N : Value → (Int × Int) → World → Prop) (s : (Int × Int)) (w : World) : Prop :=
  B_slices_Reverse_int64_int64_1 u s.1 s.2 N (fun v w => ∀ j : Nat → Value, Φ (.exit 0) (mkT j 0 L_slices_Reverse_int64_int64_1_e0 v) w) w

theorem L_slices_Reverse_int64_int64_1_eq (j : Nat → Value) (u : Value) (s : (Int × Int)) (N : Value → (Int × Int) → World → Prop) (D0 : (Unit) → World → Prop) (R : (Unit) → World → Prop) (w : World) :
    W Try.prog ty (fun _ _ _ _ => False) (loopAt Try.f56 1) (loopPost L_slices_Reverse_int64_int64_1_sp [(0, (⟨L_slices_Reverse_int64_int64_1_e0, D0⟩ : Door))] ⟨L_slices_Reverse_int64_int64_1_rt, R⟩ (fun v w => N ((fun v => v.1) v) ((fun v => (v.2.1, v.2.2.1)) v) w)) (mkT j 0 L_slices_Reverse_int64_int64_1_sp ((fun u s => (u, s.1, s.2, ())) u s)) w =
    B_slices_Reverse_int64_int64_1 u s.1 s.2 N D0 w := by
  kernel_rfl

def O_slices_Reverse_int64_int64_1 : Code → Post → List SV → World → Prop :=
  orc 1 (loopAt Try.f56 1) L_slices_Reverse_int64_int64_1_sp (fun Φ fr w => LOOP (U := Value) (S := (Int × Int)) ((fun v => v.1) (extT L_slices_Reverse_int64_int64_1_sp fr)) (L_slices_Reverse_int64_int64_1_b Φ ((fun v => v.1) (extT L_slices_Reverse_int64_int64_1_sp fr))) ((fun v => (v.2.1, v.2.2.1)) (extT L_slices_Reverse_int64_int64_1_sp fr)) w) (fun _ _ _ _ => False)

theorem O_slices_Reverse_int64_int64_1_ok : Sound Try.prog O_slices_Reverse_int64_int64_1 :=
  orc_ok (sound_none _) fun Φ fr w hs h => loop_ok (ty := ty) follows (sound_none _) L_slices_Reverse_int64_int64_1_sp (fun v => v.1) (fun v => (v.2.1, v.2.2.1)) (fun u s => (u, s.1, s.2, ())) (fun _ => rfl) L_slices_Reverse_int64_int64_1_ex L_slices_Reverse_int64_int64_1_rt (body := L_slices_Reverse_int64_int64_1_b Φ) (fun j u s w N hb => by
    have e := L_slices_Reverse_int64_int64_1_eq j u s N (doorOf Φ (.exit 0) L_slices_Reverse_int64_int64_1_e0).D (doorOf Φ .ret L_slices_Reverse_int64_int64_1_rt).D w
    exact Eq.mpr e hb) hs h

def V_slices_Reverse_int64_int64 (s0 : Value) (w : World) (K : Unit → World → Prop) : Prop :=
  (QAll Try.prog (Builtin.len_ #[22] 3 #[s0]) (.int .i64) fun (x5_1 : Int) => (At (loopAt Try.f56 1) (loopAt Try.f56 1) (LOOP (U := Value) (S := (Int × Int)) (s0 : Value) (fun N_16 s_17 w_18 => B_slices_Reverse_int64_int64_1 (s0 : Value) s_17.1 s_17.2 N_16 (fun (v_13 : (Unit)) w_14 => ∀ _j_15 : Nat → Value, K () w_14) w_18) ((0 : Int), (IntKind.i64.wrap (x5_1 - (1 : Int)))) w)))

theorem eq_slices_Reverse_int64_int64 (s0 : Value) (w : World) (K : Unit → World → Prop) :
    W Try.prog ty O_slices_Reverse_int64_int64_1 (bodyOf Try.f56) (fnPost Try.prog Try.f56.results.toList .unit K) (frame0 [s0] 28) w = V_slices_Reverse_int64_int64 s0 w K := by
  kernel_rfl

theorem body_slices_Reverse_int64_int64 : Try.f56.body = some (bodyOf Try.f56) := by kernel_rfl
theorem name_slices_Reverse_int64_int64 : (Try.f56.name == "runtime.NumGoroutine") = false := by kernel_rfl

theorem walk_slices_Reverse_int64_int64 (s0 : Value) {w : World} {K : Unit → World → Prop} (h : V_slices_Reverse_int64_int64 s0 w K) : Fc Try.prog 56 #[s0] w .unit K :=
  fn_ok follows O_slices_Reverse_int64_int64_1_ok Try.func56 name_slices_Reverse_int64_int64 body_slices_Reverse_int64_int64 Try.ntmps56 [s0] (Eq.mpr (eq_slices_Reverse_int64_int64 s0 w K) h)

-- uses S2Sl
theorem c_slices_Reverse_int64_int64 {a : Value} {l : List Int} {B E : Nat} {w : World} {K : Unit → World → Prop} (h : MyI B E w a l) (hK : ∀ w', ModR B E w w' → MyI B E w' a l.reverse → K () w') :
    Fc Try.prog F_slices_Reverse_int64_int64 #[a] w .unit K := by
  have hlen := h.len
  refine walk_slices_Reverse_int64_int64 _ (lenI h.sl ?_)
  rw [wrap_small (by omega) (by omega)]
  rcases h with ⟨_, ⟨rfl, rfl⟩ | ⟨b, hB, hE, ho⟩⟩
  · refine lp (fun s w' => s = (0, -1) ∧ w' = w) (fun _ _ => 0) ⟨rfl, rfl⟩ ?_
    rintro s w' N ⟨rfl, rfl⟩ hN
    unfold B_slices_Reverse_int64_int64_1
    exact ⟨fun h => by simp at h, fun _ _ => hK w' (ModR.refl _ _ _) (by simpa using myI_nil _ _ _)⟩
  · refine lp (fun s w' => 0 ≤ s.1 ∧ s.1 + s.2 = l.length - 1 ∧ s.1 ≤ s.2 + 1 ∧ Mod [b] w w' ∧ ∃ m : List Int, m.length = l.length ∧ Own w' b tI 1 a l.length (iv m) ∧ ∀ p : Nat, p < l.length → m.getD p 0 = if (p : Int) < s.1 ∨ s.2 < p then l.getD (l.length - 1 - p) 0 else l.getD p 0)
      (fun s _ => (s.2 + 1 - s.1).toNat) ⟨by simp, by simp, by simp, Mod.refl _ _, l, rfl, ho, fun p hp => by rw [if_neg (by simp; omega)]⟩ ?_
    rintro ⟨i, j⟩ w' N ⟨i0, i1, i2, hm, m, hml, hO, hall⟩ hN
    simp only at i0 i1 i2 hall
    unfold B_slices_Reverse_int64_int64_1
    have hO : OwnI w' b a m := by unfold OwnI; rw [hml]; exact hO
    refine ⟨fun hlt w1 hd => ?_, fun hge => ?_⟩
    · have hlt := dec_t hlt
      simp only at hlt
      have hb := hd.below w'.heap.size
      have h1 : OwnI w1 b a m := hO.keep hb
      have hs1 : SlI w1 a m := own_slI h1 (by omega)
      refine atI hs1 (by omega) (by rw [hml]; omega) (atI hs1 i0 (by rw [hml]; omega) (putI h1 i0 (by rw [hml]; omega) fun w2 m2 s2 h2 => putI h2 (by omega) (by rw [List.length_set, hml]; omega) fun w3 m3 s3 h3 => ?_))
      simp only
      rw [wrap_small (by omega) (by omega), wrap_small (by omega) (by omega)]
      refine hN _ _ ⟨by simp; omega, by simp; omega, by simp; omega, (hm.trans (mod_of_below hb [b])).trans (m2.trans m3), (m.set i.toNat (m.getD j.toNat 0)).set j.toNat (m.getD i.toNat 0), by simp [hml], ?_, fun p hp => ?_⟩ (by simp; omega)
      · have : ((m.set i.toNat (m.getD j.toNat 0)).set j.toNat (m.getD i.toNat 0)).length = l.length := by simp [hml]
        unfold OwnI at h3
        rwa [this] at h3
      · have hpi := hall p hp
        have hii := hall i.toNat (by omega)
        have hjj := hall j.toNat (by omega)
        rw [if_neg (by omega)] at hii hjj
        simp only
        by_cases hj : p = j.toNat
        · subst hj
          rw [if_pos (by omega)]
          have : ((m.set i.toNat (m.getD j.toNat 0)).set j.toNat (m.getD i.toNat 0)).getD j.toNat 0 = m.getD i.toNat 0 := by simp [List.getD, hml, show j.toNat < l.length from by omega]
          rw [this, hii]
          congr 1; omega
        · by_cases hi : p = i.toNat
          · subst hi
            rw [if_pos (by omega)]
            have : ((m.set i.toNat (m.getD j.toNat 0)).set j.toNat (m.getD i.toNat 0)).getD i.toNat 0 = m.getD j.toNat 0 := by
              simp only [List.getD]
              rw [List.getElem?_set_ne (by omega), List.getElem?_set_self (by omega)]
              rfl
            rw [this, hjj]
            congr 1; omega
          · have : ((m.set i.toNat (m.getD j.toNat 0)).set j.toNat (m.getD i.toNat 0)).getD p 0 = m.getD p 0 := by
              simp only [List.getD]
              rw [List.getElem?_set_ne (by omega), List.getElem?_set_ne (by omega)]
            rw [this, hpi]
            by_cases hin : (p : Int) < i ∨ j < p
            · rw [if_pos hin, if_pos (by omega)]
            · rw [if_neg hin, if_neg (by omega)]
    · have hge := dec_f hge
      simp only at hge
      intro _
      have : m = l.reverse := by
        apply List.ext_getElem
        · simp [hml]
        · intro p h1 h2
          have hp : p < l.length := by omega
          have := hall p hp
          rw [List.getElem_reverse]
          simp only [List.getD, h1, hp, List.getElem?_eq_getElem, Option.getD_some, show l.length - 1 - p < l.length from by omega] at this
          rw [this]
          split
          · rfl
          · congr 1; omega
      subst this
      exact hK w' (hm.r hB hE) (own_my hO (by simpa using hlen) hB hE)

end Go.Proofs.Ytdnofmicjgppnaa
