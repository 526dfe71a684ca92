/- The greatest number of a free part. No condition. -/
import Derived.Test.YtdkodhonaoecnaaS8Find
namespace Go.Proofs.Ytdkodhonaoecnaa
open Go Go.RowKit Eng Mem
abbrev allV (k kind : Int) (n f : Nat) (l : List Int) : List (List Int) := (goF (fun _ => true) k kind n f l).1
theorem mem_goL {go : List Int → List (List Int) × Bool} {p : List Int} : ∀ xs : List (List Int), (∀ x ∈ xs, (go x).2 = true) → (p ∈ (goL go xs).1 ↔ ∃ x ∈ xs, p ∈ (go x).1)
  | [], _ => by simp [goL]
  | x :: xs, h => by
    have h1 := h x (by simp)
    have h2 := mem_goL (p := p) xs fun y hy => h y (by simp [hy])
    unfold goL
    rw [if_pos h1]
    simp only [List.mem_append, h2, List.mem_cons, exists_eq_or_imp]
theorem mem_allV {k kind : Int} {n f : Nat} {l p : List Int} (h : l.length + (f + 1) = n) : p ∈ allV k kind n (f + 1) l ↔ p = l ∨ ∃ c ∈ nextL l kind k.toNat, p ∈ allV k kind n f (l ++ [c]) := by
  have e : allV k kind n (f + 1) l = l :: (goL (goF (fun _ => true) k kind n f) ((nextL l kind k.toNat).map fun c => l ++ [c])).1 := by
    unfold allV
    rw [goF, if_pos rfl, if_neg (by omega)]
  rw [e, List.mem_cons, mem_goL _ fun x hx => by
    obtain ⟨c, _, rfl⟩ := List.mem_map.1 hx
    exact (cnt_goF k kind n f _ (by simp; omega)).1]
  constructor
  · rintro (h | ⟨x, hx, hp⟩)
    · exact .inl h
    · obtain ⟨c, hc, rfl⟩ := List.mem_map.1 hx
      exact .inr ⟨c, hc, hp⟩
  · rintro (h | ⟨c, hc, hp⟩)
    · exact .inl h
    · exact .inr ⟨_, List.mem_map.2 ⟨c, hc, rfl⟩, hp⟩
theorem mem_allV0 {k kind : Int} {n : Nat} {l p : List Int} (h : l.length = n) : p ∈ allV k kind n 0 l ↔ p = l := by
  unfold allV
  rw [goF, if_pos rfl, if_pos h]
  simp
theorem find_iff (k kind : Int) (n m : Nat) (hm : m ≤ n) : ∀ (f : Nat) (l : List Int), l.length + f = n → l.length ≤ m → ((findF k kind m (m - l.length) l).isSome = true ↔ ∃ p ∈ allV k kind n f l, p.length = m)
  | 0, l, h, hl => by
    have : m = l.length := by omega
    subst this
    simp only [mem_allV0 h, exists_eq_left]
    rw [Nat.sub_self, findF, if_pos rfl]
    simp
  | f + 1, l, h, hl => by
    by_cases he : l.length = m
    · constructor
      · intro _; exact ⟨l, (mem_allV h).2 (.inl rfl), he⟩
      · intro _
        rw [show m - l.length = 0 from by omega, findF, if_pos he]; rfl
    · obtain ⟨g, hg⟩ : ∃ g, m - l.length = g + 1 := ⟨m - l.length - 1, by omega⟩
      rw [hg, findF, if_neg he, List.findSome?_isSome_iff]
      have ih := fun c => find_iff k kind n m hm f (l ++ [c]) (by simp; omega) (by simp; omega)
      have hgl : ∀ c : Int, m - (l ++ [c]).length = g := fun c => by simp; omega
      constructor
      · rintro ⟨x, hx, hs⟩
        obtain ⟨c, hc, rfl⟩ := List.mem_map.1 hx
        have := ih c
        rw [hgl c] at this
        obtain ⟨p, hp, hpl⟩ := this.1 hs
        exact ⟨p, (mem_allV h).2 (.inr ⟨c, hc, hp⟩), hpl⟩
      · rintro ⟨p, hp, hpl⟩
        rcases (mem_allV h).1 hp with rfl | ⟨c, hc, hp⟩
        · exact absurd hpl he
        · have := ih c
          rw [hgl c] at this
          exact ⟨_, List.mem_map.2 ⟨c, hc, rfl⟩, this.2 ⟨p, hp, hpl⟩⟩
theorem less_too (k kind : Int) (n : Nat) : ∀ (f : Nat) (l : List Int), l.length + f = n → ∀ p ∈ allV k kind n f l, ∀ m, l.length ≤ m → m ≤ p.length → ∃ q ∈ allV k kind n f l, q.length = m
  | 0, l, h, p, hp, m, h1, h2 => by
    have := (mem_allV0 h).1 hp
    subst this
    exact ⟨p, hp, by omega⟩
  | f + 1, l, h, p, hp, m, h1, h2 => by
    by_cases he : l.length = m
    · exact ⟨l, (mem_allV h).2 (.inl rfl), he⟩
    · rcases (mem_allV h).1 hp with rfl | ⟨c, hc, hp⟩
      · omega
      · obtain ⟨q, hq, hl⟩ := less_too k kind n f (l ++ [c]) (by simp; omega) p hp m (by simp; omega) h2
        exact ⟨q, (mem_allV h).2 (.inr ⟨c, hc, hq⟩), hl⟩
theorem len_le (k kind : Int) (n : Nat) : ∀ (f : Nat) (l : List Int), l.length + f = n → ∀ p ∈ allV k kind n f l, p.length ≤ n
  | 0, l, h, p, hp => by have := (mem_allV0 h).1 hp; subst this; omega
  | f + 1, l, h, p, hp => by
    rcases (mem_allV h).1 hp with rfl | ⟨c, hc, hp⟩
    · omega
    · exact len_le k kind n f (l ++ [c]) (by simp; omega) p hp
/-- The greatest length met. -/
def mostL (d : List (List Int)) : Nat := d.foldl (fun m l => max m l.length) 0
theorem mostL_snoc (d : List (List Int)) (l : List Int) : mostL (d ++ [l]) = max (mostL d) l.length := by simp [mostL]
theorem foldl_max (n : Nat) : ∀ (d : List (List Int)) (a : Nat), d.foldl (fun m l => max m l.length) a ≤ n ↔ a ≤ n ∧ ∀ p ∈ d, p.length ≤ n
  | [], a => by simp
  | x :: d, a => by
    rw [List.foldl_cons, foldl_max n d]
    simp only [List.mem_cons, forall_eq_or_imp]
    rw [Nat.max_le, and_assoc]
theorem mostL_le {n : Nat} {d : List (List Int)} : mostL d ≤ n ↔ ∀ p ∈ d, p.length ≤ n := by
  unfold mostL
  rw [foldl_max]
  simp
def greatF (k kind : Int) : Int × Int := if (1 ≤ k ∧ k ≤ 2) ∧ 0 ≤ kind ∧ kind ≤ 2 then ((mostL (allV k kind 40 40 []) : Nat), 0) else (0, 2)
theorem great_is {k kind : Int} {n : Nat} (hn : n ≤ 40) (h : ∃ p ∈ allV k kind 40 40 [], p.length = n) (h' : n = 40 ∨ findF k kind (n + 1) (n + 1) [] = none) : mostL (allV k kind 40 40 []) = n := by
  obtain ⟨p, hp, hpl⟩ := h
  have h1 : n ≤ mostL (allV k kind 40 40 []) := by
    have := mostL_le.1 (Nat.le_refl (mostL (allV k kind 40 40 []))) p hp
    omega
  have h2 : mostL (allV k kind 40 40 []) ≤ n := mostL_le.2 fun q hq => by
    rcases h' with h' | h'
    · have := len_le k kind 40 40 [] (by simp) q hq; omega
    · rcases Nat.lt_or_ge n q.length with hlt | hge
      · have hq40 := len_le k kind 40 40 [] (by simp) q hq
        obtain ⟨r, hr, hrl⟩ := less_too k kind 40 40 [] (by simp) q hq (n + 1) (by simp) (by omega)
        have := (find_iff k kind 40 (n + 1) (by omega) 40 [] (by simp) (by simp)).2 ⟨r, hr, hrl⟩
        rw [List.length_nil, Nat.sub_zero, h'] at this
        cases this
      · exact hge
  omega
end Go.Proofs.Ytdkodhonaoecnaa
