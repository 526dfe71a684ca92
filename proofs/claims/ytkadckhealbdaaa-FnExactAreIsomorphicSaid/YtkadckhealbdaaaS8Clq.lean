/- Cliques, as plain data. No condition. -/
import Derived.Test.YtkadckhealbdaaaS8Deg
namespace Go.Proofs.Ytkadckhealbdaaa
open Go Go.RowKit Eng Mem
set_option maxRecDepth 100000
/-- Is there a rising list of so many points below n in S, all joined? -/
def clqF (adj : Nat → Nat → Bool) (n : Nat) : Nat → (Nat → Bool) → Bool
  | 0, _ => true
  | m + 1, S => (List.range n).any fun i => S i && clqF adj n m fun j => S j && (decide (i < j) && adj i j)
theorem clqF_mono {adj : Nat → Nat → Bool} {n : Nat} : ∀ (m : Nat) {S S' : Nat → Bool}, (∀ j, j < n → S j = true → S' j = true) → clqF adj n m S = true → clqF adj n m S' = true
  | 0, _, _, _, _ => rfl
  | m + 1, S, S', h, hc => by
    rw [clqF, List.any_eq_true] at hc ⊢
    obtain ⟨i, hi, hs⟩ := hc
    rw [Bool.and_eq_true] at hs
    have hi' : i < n := by simpa using hi
    refine ⟨i, hi, ?_⟩
    rw [Bool.and_eq_true]
    refine ⟨h i hi' hs.1, clqF_mono m (fun j hj hsj => ?_) hs.2⟩
    rw [Bool.and_eq_true] at hsj ⊢
    exact ⟨h j hj hsj.1, hsj.2⟩
theorem clqF_congr {adj : Nat → Nat → Bool} {n m : Nat} {S S' : Nat → Bool} (h : ∀ j, j < n → S j = S' j) : clqF adj n m S = clqF adj n m S' := by
  rw [Bool.eq_iff_iff]
  exact ⟨clqF_mono m fun j hj hs => by rw [← h j hj]; exact hs, clqF_mono m fun j hj hs => by rw [h j hj]; exact hs⟩
theorem countP_less {α : Type} {p q : α → Bool} {a : α} : ∀ {l : List α}, a ∈ l → (∀ x ∈ l, q x = true → p x = true) → p a = true → q a = false → l.countP q < l.countP p
  | x :: l, ha, h, hp, hq => by
    have hle : l.countP q ≤ l.countP p := List.countP_mono_left fun y hy => h y (List.mem_cons_of_mem _ hy)
    rcases List.mem_cons.1 ha with rfl | ha
    · rw [List.countP_cons_of_pos hp, List.countP_cons_of_neg (by simp [hq])]; omega
    · have := countP_less (l := l) ha (fun y hy => h y (List.mem_cons_of_mem _ hy)) hp hq
      have hx := h x (List.mem_cons_self ..)
      rw [List.countP_cons, List.countP_cons]
      by_cases hqx : q x = true
      · rw [if_pos hqx, if_pos (hx hqx)]; omega
      · rw [if_neg hqx]; omega
theorem clqF_card {adj : Nat → Nat → Bool} {n : Nat} : ∀ (m : Nat) {S : Nat → Bool}, clqF adj n m S = true → m ≤ (List.range n).countP S
  | 0, _, _ => Nat.zero_le _
  | m + 1, S, hc => by
    rw [clqF, List.any_eq_true] at hc
    obtain ⟨i, hi, hs⟩ := hc
    rw [Bool.and_eq_true] at hs
    have h1 := clqF_card m hs.2
    have h2 := countP_less (p := S) (q := fun j => S j && (decide (i < j) && adj i j)) hi (fun x _ hx => by rw [Bool.and_eq_true] at hx; exact hx.1) hs.1 (by simp)
    omega
/-- One more place of the loop. -/
def clqG (adj : Nat → Nat → Bool) (n m : Nat) (S : Nat → Bool) (i : Nat) : Bool := S i && clqF adj n m fun j => S j && (decide (i < j) && adj i j)
theorem clqF_yes {adj : Nat → Nat → Bool} {n m : Nat} {S : Nat → Bool} {i : Nat} (hi : i < n) (h : clqG adj n m S i = true) : clqF adj n (m + 1) S = true := by
  rw [clqF, List.any_eq_true]; exact ⟨i, by simpa using hi, h⟩
theorem clqF_no {adj : Nat → Nat → Bool} {n m : Nat} {S : Nat → Bool} (h : ∀ i, i < n → clqG adj n m S i = false) : clqF adj n (m + 1) S = false := by
  rw [clqF, List.any_eq_false]
  intro i hi
  have : i < n := by simpa using hi
  have h' := h i this
  unfold clqG at h'
  rw [h']
  simp
/-- Points moved: a clique from i on is one from 0 on. -/
theorem clqF_shift {adj : Nat → Nat → Bool} {n i : Nat} (ha : ∀ a b, a < b → b + i < n → adj (a + i) (b + i) = adj a b) : ∀ (m : Nat) {S T : Nat → Bool}, (∀ j, j < n → S j = true → i ≤ j ∧ T (j - i) = true) → clqF adj n m S = true → clqF adj n m T = true
  | 0, _, _, _, _ => rfl
  | m + 1, S, T, h, hc => by
    rw [clqF, List.any_eq_true] at hc ⊢
    obtain ⟨k, hk, hs⟩ := hc
    rw [Bool.and_eq_true] at hs
    have hk' : k < n := by simpa using hk
    have h1 := h k hk' hs.1
    refine ⟨k - i, by simp; omega, ?_⟩
    rw [Bool.and_eq_true]
    refine ⟨h1.2, clqF_shift ha m (fun j hj hsj => ?_) hs.2⟩
    rw [Bool.and_eq_true, Bool.and_eq_true, decide_eq_true_eq] at hsj
    have h2 := h j hj hsj.1
    refine ⟨h2.1, ?_⟩
    rw [Bool.and_eq_true, Bool.and_eq_true, decide_eq_true_eq]
    refine ⟨h2.2, by omega, ?_⟩
    have := ha (k - i) (j - i) (by omega) (by omega)
    rw [← this, Nat.sub_add_cancel h1.1, Nat.sub_add_cancel h2.1]
    exact hsj.2.2
/-- Where the edges depend on the difference, a clique may begin with 0. -/
theorem clqF_turn {adj : Nat → Nat → Bool} {n : Nat} (h0 : 0 < n) (ha : ∀ i a b, a < b → b + i < n → adj (a + i) (b + i) = adj a b) (m : Nat) :
    clqF adj n (m + 1) (fun _ => true) = clqF adj n m fun j => decide (0 < j) && adj 0 j := by
  rw [Bool.eq_iff_iff]
  constructor
  · intro h
    rw [clqF, List.any_eq_true] at h
    obtain ⟨i, hi, hs⟩ := h
    rw [Bool.true_and] at hs
    refine clqF_shift (ha i) m (fun j hj hsj => ?_) hs
    rw [Bool.true_and, Bool.and_eq_true, decide_eq_true_eq] at hsj
    refine ⟨by omega, ?_⟩
    rw [Bool.and_eq_true, decide_eq_true_eq]
    have := ha i 0 (j - i) (by omega) (by omega)
    rw [← this, Nat.zero_add, Nat.sub_add_cancel (by omega)]
    exact ⟨by omega, hsj.2⟩
  · intro h
    refine clqF_yes h0 ?_
    unfold clqG
    rw [Bool.true_and]
    exact clqF_mono m (fun j _ hs => by simpa using hs) h
end Go.Proofs.Ytkadckhealbdaaa
