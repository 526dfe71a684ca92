/- The first free part. No condition. -/
import Derived.Test.YtdkodhonaoecnaaS8App
import Derived.Test.YtdkodhonaoecnaaS8CF
namespace Go.Proofs.Ytdkodhonaoecnaa
open Go Go.RowKit Eng Mem
/-- The first free part of n that goes on from l. -/
def findF (k kind : Int) (n : Nat) : Nat → List Int → Option (List Int)
  | f, l => if l.length = n then some l else match f with
    | 0 => none
    | f + 1 => ((nextL l kind k.toNat).map fun c => l ++ [c]).findSome? (findF k kind n f)
theorem findF_len {k kind : Int} {n : Nat} : ∀ {f : Nat} {l p : List Int}, findF k kind n f l = some p → p.length = n
  | 0, l, p, h => by
    unfold findF at h
    split at h
    · injection h with h; subst h; assumption
    · cases h
  | f + 1, l, p, h => by
    unfold findF at h
    split at h
    · injection h with h; subst h; assumption
    · obtain ⟨x, _, hx⟩ := List.exists_of_findSome?_eq_some h
      exact findF_len hx
/-- The last of those of n numbers, if any. -/
def outOf (n : Nat) (d : List (List Int)) : List Int := ((d.filter fun l => decide (l.length = n)).getLast?).getD []
theorem outOf_snoc (n : Nat) (d : List (List Int)) (l : List Int) : outOf n (d ++ [l]) = if l.length = n then l else outOf n d := by
  unfold outOf
  rw [List.filter_append]
  by_cases h : l.length = n
  · rw [if_pos h, List.filter_cons_of_pos (by simpa using h)]; simp
  · rw [if_neg h, List.filter_cons_of_neg (by simpa using h)]; simp
theorem outOf_app (n : Nat) (d e : List (List Int)) (h : ∀ l ∈ e, l.length ≠ n) : outOf n (d ++ e) = outOf n d := by
  unfold outOf
  rw [List.filter_append, (List.filter_eq_nil_iff (l := e)).2 (fun l hl => by simpa using h l hl), List.append_nil]
/-- What the walk that stops at the first meets. -/
def StopsAt (n : Nat) (x : List (List Int) × Bool) : Option (List Int) → Prop
  | none => x.2 = true ∧ ∀ l ∈ x.1, l.length ≠ n
  | some p => x.2 = false ∧ ∃ e, x.1 = e ++ [p] ∧ ∀ l ∈ e, l.length ≠ n
theorem stops_goL {n : Nat} {go : List Int → List (List Int) × Bool} {fi : List Int → Option (List Int)} : ∀ xs : List (List Int), (∀ x ∈ xs, StopsAt n (go x) (fi x)) → StopsAt n (goL go xs) (xs.findSome? fi)
  | [], _ => by simp [goL, StopsAt]
  | x :: xs, h => by
    have h1 := h x (by simp)
    have h2 := stops_goL xs fun y hy => h y (by simp [hy])
    unfold goL
    rw [List.findSome?_cons]
    cases hf : fi x with
    | none =>
      rw [hf] at h1
      rw [if_pos h1.1]
      simp only
      cases hg : xs.findSome? fi with
      | none =>
        rw [hg] at h2
        exact ⟨h2.1, fun l hl => (List.mem_append.1 hl).elim (h1.2 l) (h2.2 l)⟩
      | some p =>
        rw [hg] at h2
        obtain ⟨a, e, he, hn⟩ := h2
        exact ⟨a, (go x).1 ++ e, by simp only [he, List.append_assoc], fun l hl => (List.mem_append.1 hl).elim (h1.2 l) (hn l)⟩
    | some p =>
      rw [hf] at h1
      obtain ⟨a, e, he, hn⟩ := h1
      rw [if_neg (by rw [a]; simp)]
      exact ⟨rfl, e, he, hn⟩
theorem stops_goF (k kind : Int) (n : Nat) : ∀ f l, l.length + f = n → StopsAt n (goF (fun l => decide (l.length < n)) k kind n f l) (findF k kind n f l)
  | 0, l, h => by
    unfold goF findF
    rw [if_neg (by simp; omega), if_pos (by omega)]
    exact ⟨rfl, [], rfl, by simp⟩
  | f + 1, l, h => by
    have h1 := stops_goL (n := n) (go := goF (fun l => decide (l.length < n)) k kind n f) (fi := findF k kind n f) ((nextL l kind k.toNat).map fun c => l ++ [c]) fun x hx => by
      obtain ⟨c, _, rfl⟩ := List.mem_map.1 hx
      exact stops_goF k kind n f _ (by simp; omega)
    unfold goF findF
    rw [if_pos (by simp; omega), if_neg (by omega), if_neg (by omega)]
    simp only
    cases hg : ((nextL l kind k.toNat).map fun c => l ++ [c]).findSome? (findF k kind n f) with
    | none =>
      rw [hg] at h1
      exact ⟨h1.1, fun y hy => by
        rcases List.mem_cons.1 hy with rfl | hy
        · omega
        · exact h1.2 y hy⟩
    | some p =>
      rw [hg] at h1
      obtain ⟨a, e, he, hn⟩ := h1
      exact ⟨a, l :: e, by simp only [he, List.cons_append], fun y hy => by
        rcases List.mem_cons.1 hy with rfl | hy
        · omega
        · exact hn y hy⟩
def firstFree (n k kind : Int) : List Int × Int := if (0 ≤ n ∧ n ≤ 14) ∧ (1 ≤ k ∧ k ≤ 3) ∧ 0 ≤ kind ∧ kind ≤ 2 then (match findF k kind n.toNat n.toNat [] with | none => ([], 4) | some p => (p, 0)) else ([], 2)
end Go.Proofs.Ytdkodhonaoecnaa
