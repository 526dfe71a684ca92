/- The walk over all free parts, as plain lists. No condition. -/
import Derived.Test.YtkadckhealbdaaaS8Next
namespace Go.Proofs.Ytkadckhealbdaaa
open Go Go.RowKit Eng Mem
theorem ModR.trans {B E : Nat} {a b c : World} (h : ModR B E a b) (k : ModR B E b c) : ModR B E a c :=
  ⟨k.os.trans h.os, k.tape.trans h.tape, k.output.trans h.output, Nat.le_trans h.size k.size, fun i hi hn => (k.block i (Nat.lt_of_lt_of_le hi h.size) hn).trans (h.block i hi hn)⟩
theorem below_modr {B E : Nat} {w w' : World} (h : Below w.heap.size w w') : ModR B E w w' := ⟨h.os, h.tape, h.output, h.size, fun k hk _ => h.block k hk⟩
/-- Through a list, as long as it says true. -/
def goL (go : List Int → List (List Int) × Bool) : List (List Int) → List (List Int) × Bool
  | [] => ([], true)
  | x :: xs => if (go x).2 then ((go x).1 ++ (goL go xs).1, (goL go xs).2) else ((go x).1, false)
/-- The parts that are met, in order, and whether all said true. -/
def goF (r : List Int → Bool) (k kind : Int) (n : Nat) : Nat → List Int → List (List Int) × Bool
  | f, l => if r l then (if l.length = n then ([l], true) else match f with
    | 0 => ([l], true)
    | f + 1 => (l :: (goL (goF r k kind n f) ((nextL l kind k.toNat).map fun c => l ++ [c])).1, (goL (goF r k kind n f) ((nextL l kind k.toNat).map fun c => l ++ [c])).2)) else ([l], false)
theorem goL_len {go : List Int → List (List Int) × Bool} {m : Nat} (h : ∀ x, (go x).1.length ≤ m) : ∀ xs, (goL go xs).1.length ≤ xs.length * m
  | [] => by simp [goL]
  | x :: xs => by
    have h1 := h x
    have h2 := goL_len h xs
    unfold goL
    split
    · simp only [List.length_append, List.length_cons, Nat.add_mul, Nat.one_mul]; omega
    · simp only [List.length_cons, Nat.add_mul, Nat.one_mul]
      have : 0 ≤ xs.length * m := Nat.zero_le _
      omega
theorem goF_len (r : List Int → Bool) (k kind : Int) (hk : k ≤ 3) (n : Nat) : ∀ f l, (goF r k kind n f l).1.length + 1 ≤ 2 * 3 ^ f
  | 0, l => by
    unfold goF
    split
    · split <;> simp
    · simp
  | f + 1, l => by
    unfold goF
    have h3 : 1 ≤ 3 ^ f := Nat.one_le_pow _ _ (by omega)
    have h4 : 3 ^ (f + 1) = 3 * 3 ^ f := by rw [Nat.pow_succ, Nat.mul_comm]
    split
    · split
      · simp; omega
      · simp only [List.length_cons]
        have h1 := goL_len (go := goF r k kind n f) (m := 2 * 3 ^ f - 1) (fun x => by have := goF_len r k kind hk n f x; omega) ((nextL l kind k.toNat).map fun c => l ++ [c])
        rw [List.length_map] at h1
        have h2 := nextL_len l kind k.toNat
        have h5 : (nextL l kind k.toNat).length * (2 * 3 ^ f - 1) ≤ 3 * (2 * 3 ^ f - 1) := Nat.mul_le_mul_right _ (by omega)
        omega
    · simp; omega
/-- How many free parts of n go on from l. -/
def cntFree (k kind : Int) (n : Nat) : Nat → List Int → Nat
  | f, l => if l.length = n then 1 else match f with
    | 0 => 0
    | f + 1 => ((nextL l kind k.toNat).map fun c => cntFree k kind n f (l ++ [c])).sum
theorem cnt_goL {go : List Int → List (List Int) × Bool} {p : List Int → Bool} {cnt : List Int → Nat} (h : ∀ x, (go x).2 = true ∧ ((go x).1.countP p) = cnt x) : ∀ xs, (goL go xs).2 = true ∧ (goL go xs).1.countP p = (xs.map cnt).sum
  | [] => by simp [goL]
  | x :: xs => by
    have h1 := h x
    have h2 := cnt_goL h xs
    unfold goL
    rw [if_pos h1.1]
    refine ⟨h2.1, ?_⟩
    simp only [List.countP_append, List.map_cons, List.sum_cons, h1.2, h2.2]
theorem cnt_goF (k kind : Int) (n : Nat) : ∀ f l, l.length + f = n → (goF (fun _ => true) k kind n f l).2 = true ∧ (goF (fun _ => true) k kind n f l).1.countP (fun l => decide (l.length = n)) = cntFree k kind n f l
  | 0, l, h => by
    unfold goF cntFree
    rw [if_pos rfl, if_pos (by omega), if_pos (by omega)]
    simp; omega
  | f + 1, l, h => by
    unfold goF cntFree
    rw [if_pos rfl, if_neg (by omega), if_neg (by omega)]
    have h1 := cnt_goL (go := goF (fun _ => true) k kind n f) (p := fun l => decide (l.length = n)) (cnt := cntFree k kind n f)
    have h2 : ∀ xs : List (List Int), (∀ x ∈ xs, x.length + f = n) → (goL (goF (fun _ => true) k kind n f) xs).2 = true ∧ (goL (goF (fun _ => true) k kind n f) xs).1.countP (fun l => decide (l.length = n)) = (xs.map (cntFree k kind n f)).sum := by
      intro xs
      induction xs with
      | nil => intro _; simp [goL]
      | cons x xs ih =>
        intro hx
        have a := cnt_goF k kind n f x (hx x (by simp))
        have b := ih fun y hy => hx y (by simp [hy])
        unfold goL
        rw [if_pos a.1]
        refine ⟨b.1, ?_⟩
        simp only [List.countP_append, List.map_cons, List.sum_cons, a.2, b.2]
    have h3 := h2 ((nextL l kind k.toNat).map fun c => l ++ [c]) fun x hx => by
      obtain ⟨c, _, rfl⟩ := List.mem_map.1 hx
      simp; omega
    refine ⟨h3.1, ?_⟩
    simp only [List.countP_cons, h3.2, List.map_map]
    rw [if_neg (by simp; omega)]
    rfl
theorem cntFree_le (k kind : Int) (hk : k ≤ 3) (n : Nat) : ∀ f l, cntFree k kind n f l ≤ 3 ^ f
  | 0, l => by unfold cntFree; split <;> simp
  | f + 1, l => by
    unfold cntFree
    split
    · exact Nat.one_le_pow _ _ (by omega)
    · have : ∀ xs : List Int, (xs.map fun c => cntFree k kind n f (l ++ [c])).sum ≤ xs.length * 3 ^ f := by
        intro xs
        induction xs with
        | nil => simp
        | cons x xs ih =>
          have := cntFree_le k kind hk n f (l ++ [x])
          simp only [List.map_cons, List.sum_cons, List.length_cons, Nat.add_mul, Nat.one_mul]
          omega
      have h1 := this (nextL l kind k.toNat)
      have h2 := nextL_len l kind k.toNat
      have h3 : (nextL l kind k.toNat).length * 3 ^ f ≤ 3 * 3 ^ f := Nat.mul_le_mul_right _ (by omega)
      show ((nextL l kind k.toNat).map fun c => cntFree k kind n f (l ++ [c])).sum ≤ _
      rw [Nat.pow_succ, Nat.mul_comm _ 3]
      omega
end Go.Proofs.Ytkadckhealbdaaa
