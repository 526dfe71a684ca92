/- Slices of slices of int64. No condition. -/
import Derived.Test.YtkadckhealbdaaaS8Fault
namespace Go.Proofs.Ytkadckhealbdaaa
open Go Go.RowKit Eng Mem
set_option maxRecDepth 100000
/-- Blocks of other kinds are other blocks. -/
theorem blk_ne {w : World} {b b' e e' : Nat} {l l' : List Value} (h : Blk w b l e) (h' : Blk w b' l' e') (hne : e ≠ e') : b ≠ b' := by
  rintro rfl
  have := h.symm.trans h'
  injection this with this
  injection this with _ h2 _
  exact hne h2
theorem own_blk {w : World} {b e size n : Nat} {v : Value} {xs : List Value} (h : Own w b e size v n xs) : ∃ l, Blk w b l e := by
  obtain ⟨_, l, _, hb, _⟩ := h; exact ⟨l, hb⟩
theorem own_one {w : World} {b e size n : Nat} {v : Value} {xs : List Value} (h : Own w b e size v n xs) : v.oneCell' = true ∧ v.cells = #[v] := by
  obtain ⟨_, l, rfl, _⟩ := h; exact ⟨rfl, rfl⟩
/-- An own slice of own slices. -/
structure MySS (B b : Nat) (w : World) (v : Value) (ls : List (List Int)) : Prop where
  ex : ∃ vs, Own w b tSI 1 v ls.length vs ∧ ∀ (i : Nat) u l, vs[i]? = some u → ls[i]? = some l → ∃ c, B ≤ c ∧ OwnI w c u l
theorem MySS.mod {B b : Nat} {S : List Nat} {w w' : World} {v : Value} {ls : List (List Int)} (h : MySS B b w v ls) (m : Mod S w w') (hn : b ∉ S) (he : ∀ k ∈ S, ∀ l, Blk w k l tI → False) : MySS B b w' v ls := by
  obtain ⟨vs, ho, hi⟩ := h
  refine ⟨vs, ho.mod m hn, fun i u l h1 h2 => ?_⟩
  obtain ⟨c, hc, h3⟩ := hi i u l h1 h2
  obtain ⟨_, hb⟩ := own_blk h3
  exact ⟨c, hc, h3.mod m fun hm => he _ hm _ hb⟩
theorem MySS.keep {B b : Nat} {w w' : World} {v : Value} {ls : List (List Int)} (h : MySS B b w v ls) (hb : Below w.heap.size w w') : MySS B b w' v ls :=
  h.mod (mod_of_below hb []) (by simp) (by simp)
theorem MySS.len_eq {B b : Nat} {w : World} {v : Value} {ls : List (List Int)} {t : TypeId} {K : Int → Prop} (h : MySS B b w v ls) (hK : K (ls.length : Int)) : QAll Try.prog (Builtin.len_ #[tSSI] t #[v]) (.int .i64) K := by
  obtain ⟨vs, ho, _⟩ := h
  have := ho.len
  exact len ySSI ho.sl (by rw [this]; simpa using hK)
theorem MySS.lt {B b : Nat} {w : World} {v : Value} {ls : List (List Int)} (h : MySS B b w v ls) : b < w.heap.size := by
  obtain ⟨vs, ho, _⟩ := h; exact ho.lt
theorem MySS.blk {B b : Nat} {w : World} {v : Value} {ls : List (List Int)} (h : MySS B b w v ls) : ∃ l, Blk w b l tSI := by
  obtain ⟨vs, ho, _⟩ := h; exact own_blk ho
theorem nilSS {w : World} {K : Value → World → Prop} (hK : ∀ b v w', w.heap.size ≤ b → Below w.heap.size w w' → v.oneCell' = true → MySS w.heap.size b w' v [] → K v w') : Pr Try.prog (Instr.buildSlice tSSI 0 #[]) w (.one .any) K :=
  mk0 ySSI fun b w' hn ho => hK b _ w' (Nat.le_of_eq hn.here.symm) hn.below rfl ⟨[], ho, fun i u l h => by simp at h⟩
theorem appSS {B b c : Nat} {w : World} {v u : Value} {ls : List (List Int)} {l : List Int} {t : TypeId} {K : Value → World → Prop} (h : MySS B b w v ls) (hu : OwnI w c u l) (hc : B ≤ c) (hl : ls.length ≤ 1099511627776)
    (hK : ∀ v' w' b', MySS B b' w' v' (ls ++ [l]) → v'.oneCell' = true → Mod [b] w w' → (b' = b ∨ w.heap.size ≤ b') → K v' w') :
    Pr Try.prog (Instr.buildSlice tSSI 1 #[(0, u)]) w (.one .any) fun y w1 => Pr Try.prog (Builtin.append_ #[tSSI, tSSI] t #[v, y]) w1 (.one .any) K := by
  refine mk1 ySSI (own_one hu).2 fun b1 w1 n1 ho1 => ?_
  obtain ⟨vs, ho, hi⟩ := id h
  have e1 := n1.here; have s1 := n1.size; have lt := ho.lt
  refine app ySSI 1 (ho.keep n1.below) ho1.sl (by simp) (fun x hx => by simp at hx; subst hx; exact (own_one hu).1) (by omega) fun v' w' b' o m hb => ?_
  have mm : Mod [b] w w' := (n1.mod.mono (by simp)).trans m
  refine hK v' w' b' ⟨vs ++ [u], ?_, fun i x l' h1 h2 => ?_⟩ (own_one o).1 mm (by omega)
  · rw [List.length_append]; exact o
  · have hvl : vs.length = ls.length := by have := ho.len; omega
    have tbl : ∀ c x l', OwnI w c x l' → OwnI w' c x l' := fun c x l' h3 => by
      obtain ⟨_, hb3⟩ := own_blk h3
      obtain ⟨_, hb4⟩ := own_blk ho
      exact h3.mod mm (by simp; exact blk_ne hb3 hb4 (by decide))
    by_cases hlt : i < vs.length
    · rw [List.getElem?_append_left hlt] at h1
      rw [List.getElem?_append_left (by omega)] at h2
      obtain ⟨c', hc', h3⟩ := hi i x l' h1 h2
      exact ⟨c', hc', tbl _ _ _ h3⟩
    · rw [List.getElem?_append_right (by omega)] at h1
      rw [List.getElem?_append_right (by omega)] at h2
      have : i - vs.length = 0 := by
        rcases Nat.eq_zero_or_pos (i - vs.length) with h | h
        · exact h
        · rw [List.getElem?_eq_none (by simp; omega)] at h1; cases h1
      rw [this] at h1
      rw [show i - ls.length = 0 from by omega] at h2
      injection h1 with h1; injection h2 with h2
      subst h1; subst h2
      exact ⟨c, hc, tbl _ _ _ hu⟩
/-- The faults being gathered: the variable of the list, and that of z. -/
structure FS (B : Nat) (w : World) (p q : Value) (ls : List (List Int)) (z : Int) : Prop where
  ex : ∃ x bz v b, p = ptr x 0 ∧ q = ptr bz 0 ∧ B ≤ x ∧ B ≤ b ∧ v.oneCell' = true ∧ Blk w x [v] tSSI ∧ Blk w bz [.int .i64 z] tI ∧ MySS B b w v ls
theorem FS.keep {B : Nat} {w w' : World} {p q : Value} {ls : List (List Int)} {z : Int} (h : FS B w p q ls z) (hb : Below w.heap.size w w') : FS B w' p q ls z := by
  obtain ⟨x, bz, v, b, hp, hq, h1, h2, h3, h4, h5, h6⟩ := h
  exact ⟨x, bz, v, b, hp, hq, h1, h2, h3, below_at hb h4 (at_lt h4), below_at hb h5 (at_lt h5), h6.keep hb⟩
theorem FS.z {B : Nat} {w : World} {p q : Value} {ls : List (List Int)} {z : Int} (h : FS B w p q ls z) : Cell w q (.int .i64 z) := by
  obtain ⟨x, bz, v, b, rfl, rfl, h1, h2, h3, h4, h5, h6⟩ := h
  exact row_all (cs := [_]) h5
/-- Another variable of z. -/
theorem FS.turn {B b' : Nat} {w : World} {p q : Value} {ls : List (List Int)} {z z' : Int} (h : FS B w p q ls z) (hb : Blk w b' [.int .i64 z'] tI) : FS B w p (ptr b' 0) ls z' := by
  obtain ⟨x, bz, v, b, hp, hq, h1, h2, h3, h4, h5, h6⟩ := h
  exact ⟨x, b', v, b, hp, rfl, h1, h2, h3, h4, hb, h6⟩
end Go.Proofs.Ytkadckhealbdaaa
