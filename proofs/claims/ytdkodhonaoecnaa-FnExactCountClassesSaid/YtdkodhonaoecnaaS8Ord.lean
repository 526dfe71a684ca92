/- All orders of some numbers, and the cycles on the edges. No condition. -/
import Derived.Test.YtdkodhonaoecnaaS8Ren
namespace Go.Proofs.Ytdkodhonaoecnaa
open Go Go.RowKit Eng Mem
set_option maxRecDepth 100000
def ordF (n : Nat) : Nat → List Int → List (List Int)
  | 0, l => [l]
  | f + 1, l => (List.range n).flatMap fun i : Nat => if (i : Int) ∈ l then [] else ordF n f (l ++ [(i : Int)])
/-- Those that go on with a number below i. -/
def ordR (n f : Nat) (l : List Int) (i : Nat) : List (List Int) := (List.range i).flatMap fun i : Nat => if (i : Int) ∈ l then [] else ordF n f (l ++ [(i : Int)])
theorem ordR_zero (n f : Nat) (l : List Int) : ordR n f l 0 = [] := rfl
theorem ordR_skip {n f i : Nat} {l : List Int} (h : (i : Int) ∈ l) : ordR n f l (i + 1) = ordR n f l i := by
  unfold ordR; rw [List.range_succ, List.flatMap_append]; simp [h]
theorem ordR_go {n f i : Nat} {l : List Int} (h : (i : Int) ∉ l) : ordR n f l (i + 1) = ordR n f l i ++ ordF n f (l ++ [(i : Int)]) := by
  unfold ordR; rw [List.range_succ, List.flatMap_append]; simp [h]
theorem ordF_succ (n f : Nat) (l : List Int) : ordF n (f + 1) l = ordR n f l n := rfl
theorem ordF_len (n : Nat) : ∀ (f : Nat) (l : List Int), (ordF n f l).length ≤ n ^ f
  | 0, l => by simp [ordF]
  | f + 1, l => by
    have : ∀ i, (ordR n f l i).length ≤ i * n ^ f := fun i => by
      induction i with
      | zero => simp [ordR]
      | succ i ih =>
        by_cases h : (i : Int) ∈ l
        · rw [ordR_skip h, Nat.add_mul]; omega
        · rw [ordR_go h, List.length_append, Nat.add_mul]
          have := ordF_len n f (l ++ [(i : Int)])
          omega
    rw [ordF_succ, Nat.pow_succ, Nat.mul_comm]
    exact this n
theorem ordR_len (n f : Nat) (l : List Int) (i : Nat) : (ordR n f l i).length ≤ i * n ^ f := by
  induction i with
  | zero => simp [ordR]
  | succ i ih =>
    by_cases h : (i : Int) ∈ l
    · rw [ordR_skip h, Nat.add_mul]; omega
    · rw [ordR_go h, List.length_append, Nat.add_mul]
      have := ordF_len n f (l ++ [(i : Int)])
      omega
/-- Numbers below n, no two alike. -/
def Dis (n : Nat) (l : List Int) : Prop := (∀ x ∈ l, 0 ≤ x ∧ x < (n : Int)) ∧ l.Nodup
theorem Dis.app {n : Nat} {l : List Int} {i : Nat} (h : Dis n l) (hi : i < n) (hn : (i : Int) ∉ l) : Dis n (l ++ [(i : Int)]) := by
  refine ⟨fun x hx => ?_, ?_⟩
  · rcases List.mem_append.1 hx with hx | hx
    · exact h.1 x hx
    · simp at hx; omega
  · rw [List.nodup_append]
    exact ⟨h.2, by simp, fun a ha b hb => by simp at hb; rintro rfl; exact hn (hb ▸ ha)⟩
theorem ordF_all (n : Nat) : ∀ (f : Nat) (l : List Int), Dis n l → ∀ r ∈ ordF n f l, Dis n r ∧ r.length = l.length + f
  | 0, l, h, r, hr => by simp [ordF] at hr; subst hr; exact ⟨h, rfl⟩
  | f + 1, l, h, r, hr => by
    rw [ordF, List.mem_flatMap] at hr
    obtain ⟨i, hi, hr⟩ := hr
    by_cases hm : (i : Int) ∈ l
    · rw [if_pos hm] at hr; cases hr
    · rw [if_neg hm] at hr
      have := ordF_all n f _ (h.app (by simpa using hi) hm) r hr
      simp at this
      exact ⟨this.1, by omega⟩
theorem Dis.perm {n : Nat} {l : List Int} (h : Dis n l) (hl : l.length = n) : PermL l n := by
  refine ⟨by omega, fun i hi => ?_, fun i j hij hj => ?_⟩
  · have hi : i < l.length := by omega
    have e : l.getD i 0 = l[i] := by simp [List.getD, hi]
    rw [e]
    exact h.1 _ (List.getElem_mem hi)
  · have hj : j < l.length := by omega
    have hi : i < l.length := by omega
    have e1 : l.getD i 0 = l[i] := by simp [List.getD, hi]
    have e2 : l.getD j 0 = l[j] := by simp [List.getD, hj]
    rw [e1, e2]
    exact List.pairwise_iff_getElem.1 h.2 i j hi hj hij
theorem len_sub : ∀ {a l : List Int}, a.Nodup → (∀ x ∈ a, x ∈ l) → a.length ≤ l.length
  | [], _, _, _ => Nat.zero_le _
  | x :: a, l, hn, h => by
    have hx := h x (List.mem_cons_self ..)
    rw [List.nodup_cons] at hn
    have := len_sub (l := l.erase x) hn.2 fun y hy => (List.mem_erase_of_ne (by rintro rfl; exact hn.1 hy)).2 (h y (List.mem_cons_of_mem _ hy))
    rw [List.length_erase_of_mem hx] at this
    have := List.length_pos_of_mem hx
    simp only [List.length_cons]
    omega
theorem ordF_perm {n : Nat} {r : List Int} (hr : r ∈ ordF n n []) : PermL r n := by
  have := ordF_all n n [] ⟨by simp, by simp⟩ r hr
  simp at this
  exact this.1.perm this.2
/-- There is one at least. -/
theorem ordF_pos (n : Nat) : ∀ (f : Nat) (l : List Int), Dis n l → l.length + f = n → ordF n f l ≠ []
  | 0, l, _, _ => by simp [ordF]
  | f + 1, l, h, hl => by
    have : ∃ i, i < n ∧ (i : Int) ∉ l := by
      apply Classical.byContradiction
      intro hn
      have hall : ∀ x ∈ (List.range n).map (fun i : Nat => (i : Int)), x ∈ l := fun x hx => by
        obtain ⟨i, hi, rfl⟩ := List.mem_map.1 hx
        exact Classical.byContradiction fun hc => hn ⟨i, by simpa using hi, hc⟩
      have hnd : ((List.range n).map fun i : Nat => (i : Int)).Nodup := List.Pairwise.map _ (fun a b hab h => hab (by omega)) List.nodup_range
      have := len_sub hnd hall
      simp at this
      omega
    obtain ⟨i, hi, hn⟩ := this
    intro he
    rw [ordF, List.flatMap_eq_nil_iff] at he
    have := he i (by simpa using hi)
    rw [if_neg hn] at this
    exact ordF_pos n f _ (h.app hi hn) (by simp; omega) this
end Go.Proofs.Ytdkodhonaoecnaa
