/- Memory of the orders and of the edges met. No condition. -/
import Derived.Test.YtdkodhonaoecnaaS9Cyc
import Derived.Test.YtdkodhonaoecnaaS8App
namespace Go.Proofs.Ytdkodhonaoecnaa
open Go Go.RowKit Eng Mem
set_option maxRecDepth 100000
theorem MySS.mono {B B' b : Nat} {w : World} {v : Value} {ls : List (List Int)} (h : MySS B b w v ls) (hB : B' ≤ B) : MySS B' b w v ls := by
  obtain ⟨vs, ho, hi⟩ := h
  exact ⟨vs, ho, fun i u l h1 h2 => by obtain ⟨c, hc, h3⟩ := hi i u l h1 h2; exact ⟨c, by omega, h3⟩⟩
theorem oneSS {B c : Nat} {w : World} {u : Value} {l : List Int} {K : Value → World → Prop} (hu : OwnI w c u l) (hc : B ≤ c)
    (hK : ∀ v w' b, w.heap.size ≤ b → Below w.heap.size w w' → MySS B b w' v [l] → K v w') : Pr Try.prog (Instr.buildSlice tSSI 1 #[(0, u)]) w (.one .any) K :=
  mk1 ySSI (own_one hu).2 fun b w' hn ho => hK _ w' b (Nat.le_of_eq hn.here.symm) hn.below ⟨[u], ho, fun i x m h1 h2 => by
    have : i = 0 := by
      rcases Nat.eq_zero_or_pos i with h | h
      · exact h
      · rw [List.getElem?_eq_none (by simp; omega)] at h1; cases h1
    subst this
    simp at h1 h2
    subst h1; subst h2
    exact ⟨c, hc, hu.keep hn.below⟩⟩
theorem MySS.ones {B b : Nat} {w : World} {v : Value} {ls : List (List Int)} (h : MySS B b w v ls) : ∃ vs, Own w b tSI 1 v ls.length vs ∧ vs.length = ls.length ∧ (∀ x ∈ vs, x.oneCell' = true) ∧ ∀ (i : Nat) u l, vs[i]? = some u → ls[i]? = some l → ∃ c, B ≤ c ∧ OwnI w c u l := by
  obtain ⟨vs, ho, hi⟩ := h
  have hl : vs.length = ls.length := by have := ho.len; omega
  refine ⟨vs, ho, hl, fun x hx => ?_, hi⟩
  obtain ⟨i, hlt, rfl⟩ := List.mem_iff_getElem.1 hx
  obtain ⟨c, _, h3⟩ := hi i vs[i] (ls[i]'(by omega)) (List.getElem?_eq_getElem hlt) (List.getElem?_eq_getElem (by omega))
  exact (own_one h3).1
/-- Slices of slices, one after another. -/
theorem appsSS {B b c : Nat} {w : World} {v u : Value} {ls ms : List (List Int)} {t : TypeId} {K : Value → World → Prop} (h : MySS B b w v ls) (hu : MySS B c w u ms) (hl : ls.length + ms.length ≤ 1099511627776)
    (hK : ∀ v' w' b', MySS B b' w' v' (ls ++ ms) → Mod [b] w w' → (b' = b ∨ w.heap.size ≤ b') → K v' w') : Pr Try.prog (Builtin.append_ #[tSSI, tSSI] t #[v, u]) w (.one .any) K := by
  obtain ⟨vs, ho, hvl, h1, hi⟩ := h.ones
  obtain ⟨us, hou, hul, h1u, hiu⟩ := hu.ones
  refine app ySSI ms.length ho hou.sl (by rw [hul]; omega) h1u (by omega) fun v' w' b' o m hb => ?_
  have tbl : ∀ c x l', OwnI w c x l' → OwnI w' c x l' := fun c x l' h3 => by
    obtain ⟨_, hb3⟩ := own_blk h3
    obtain ⟨_, hb4⟩ := own_blk ho
    exact h3.mod m (by simp; exact blk_ne hb3 hb4 (by decide))
  refine hK v' w' b' ⟨vs ++ us, ?_, fun i x l' h1 h2 => ?_⟩ m hb
  · rw [List.length_append]; exact o
  · by_cases hlt : i < vs.length
    · rw [List.getElem?_append_left hlt] at h1
      rw [List.getElem?_append_left (by omega)] at h2
      obtain ⟨c', hc', h3⟩ := hi i x l' h1 h2
      exact ⟨c', hc', tbl _ _ _ h3⟩
    · rw [List.getElem?_append_right (by omega)] at h1
      rw [List.getElem?_append_right (by omega)] at h2
      rw [hvl] at h1
      obtain ⟨c', hc', h3⟩ := hiu _ x l' h1 h2
      exact ⟨c', hc', tbl _ _ _ h3⟩
/-- One of the slices is read. -/
theorem atSS {B b : Nat} {w : World} {v : Value} {ls : List (List Int)} {k : IntKind} {i : Int} {K : Value → Prop} (h : MySS B b w v ls) (h0 : 0 ≤ i) (h1 : i < ls.length) (hK : ∀ u c, B ≤ c → OwnI w c u (ls.getD i.toNat []) → K u) :
    QAll Try.prog (Instr.indexAt tSSI v (.int k i)) .any fun p => QSub Try.prog (Instr.loadAt tSI p) w .any K := by
  obtain ⟨vs, ho, hvl, h1o, hi⟩ := h.ones
  have hv : i.toNat < vs.length := by omega
  refine ixS ySSI ho.sl h0 (by omega) fun p hp => ?_
  obtain ⟨c, hc, h3⟩ := hi i.toNat vs[i.toNat] (ls[i.toNat]'(by omega)) (List.getElem?_eq_getElem hv) (List.getElem?_eq_getElem (by omega))
  have hcell : Cell w p vs[i.toNat] := hp [_] fun j hj => by
    have : j = 0 := by simp at hj; exact hj
    subst this
    simp [hv]
  refine ld (k := .any) y1SI hcell (hK _ c hc ?_)
  have e : ls.getD i.toNat [] = ls[i.toNat]'(by omega) := by simp [List.getD, show i.toNat < ls.length by omega]
  rw [e]
  exact h3
/-! ### The edges met -/
def isF : Value → Bool
  | .bool false => true
  | _ => false
def metV (M : Nat → Bool) : List Value := (List.range 136).map fun e => Value.bool (M e)
theorem metV_len (M : Nat → Bool) : (metV M).length = 136 := by simp [metV]
theorem metV_get (M : Nat → Bool) {e : Nat} (h : e < 136) : (metV M)[e]? = some (.bool (M e)) := by simp [metV, h]
theorem metV_set (M : Nat → Bool) (e : Nat) : (metV M).set e (.bool true) = metV (updB M e) := by
  apply List.ext_getElem?
  intro i
  by_cases hi : i = e
  · subst hi
    by_cases h : i < 136
    · rw [List.getElem?_set_self (by rw [metV_len]; exact h), metV_get _ h]; simp [updB]
    · rw [List.getElem?_eq_none (by simp [metV]; omega), List.getElem?_eq_none (by rw [metV_len]; omega)]
  · rw [List.getElem?_set_ne (Ne.symm hi)]
    by_cases h : i < 136
    · rw [metV_get _ h, metV_get _ h]; simp [updB, hi]
    · rw [List.getElem?_eq_none (by rw [metV_len]; omega), List.getElem?_eq_none (by rw [metV_len]; omega)]
theorem metV_0 : metV (fun _ => false) = zAb := by
  unfold metV zAb
  apply List.ext_getElem
  · simp
  · intro i h1 h2; rw [List.getElem_replicate]; simp
/-- How many are not yet met. -/
def muL (b : Nat) (w : World) : Nat := match w.heap[b]? with
  | some (.cells cs _ _) => cs.toList.countP isF
  | _ => 0
theorem muL_blk {w : World} {b e : Nat} {l : List Value} (h : Blk w b l e) : muL b w = l.countP isF := by unfold muL; rw [h]
theorem cnt_set {l : List Value} {i : Nat} (h : l[i]? = some (.bool false)) : (l.set i (.bool true)).countP isF < l.countP isF := by
  have hi := (List.getElem?_eq_some_iff.1 h).1
  have he := (List.getElem?_eq_some_iff.1 h).2
  rw [List.countP_set hi, he]
  have hp : 0 < l.countP isF := List.countP_pos_iff.2 ⟨_, List.getElem_mem hi, by rw [he]; rfl⟩
  simp [isF]
  omega
theorem buildAb (w : World) : (Instr.build tAb #[]).run Try.prog w = .ok (.agg zAb.toArray) w := by kernel_rfl
/-- A place of an own slice of one-cell elements. -/
theorem ixOv {w : World} {b e n bytes : Nat} {t : TypeId} {z v : Value} {xs : List Value} {k : IntKind} {i : Int} {K : Value → Prop} (ht : TyS Try.prog t e 1 bytes z) (h : Own w b e 1 v n xs) (h0 : 0 ≤ i) (h1 : i < n) (hK : K (ptr b i.toNat)) :
    QAll Try.prog (Instr.indexAt t v (.int k i)) .any K := by
  obtain ⟨cap, l', rfl, hb, _⟩ := h.ex
  refine ⟨ptr b i.toNat, fun w' => ?_, hK⟩
  obtain ⟨inf, hi, _, hs, _⟩ := ht.parts
  have hs' : (Try.prog.info? e).map (·.size) = some 1 := by rw [hi]; exact congrArg some hs
  unfold Instr.indexAt
  simp [asIntOf, run_underlying ht.und, sizeOf_run hs', h0, h1, add_none]
theorem mkSb {w : World} {k k' : IntKind} {n : Int} {K : Value → World → Prop} (h0 : 0 ≤ n) (h1 : n ≤ 1099511627776) (hK : ∀ b v w', New w w' b (.cells (List.replicate n.toNat (.bool false)).toArray tb) → Own w' b tb 1 v n.toNat (List.replicate n.toNat (.bool false)) → K v w') :
    Pr Try.prog (Instr.makeSlice tSb (.int k n) (.int k' n)) w (.one .any) K := by
  refine ⟨_, _, mk_slice_run ySb h0 (by omega) rfl w, ?_⟩
  have hn := new_alloc w (.cells (List.replicate n.toNat (.bool false)).toArray tb)
  exact hK w.heap.size _ _ hn (own_new hn.at_ (by simp) (by unfold maxLen; omega))
theorem idx_inj {n a b x y : Nat} (hb : b < n) (hy : y < n) (h : a * n + b = x * n + y) : a = x ∧ b = y := by
  have h1 := congrArg (· % n) h
  have h2 := congrArg (· / n) h
  simp only [Nat.add_comm (a * n), Nat.add_comm (x * n), Nat.add_mul_mod_self_right, Nat.mod_eq_of_lt hb, Nat.mod_eq_of_lt hy] at h1
  simp only [Nat.add_comm (a * n), Nat.add_comm (x * n), Nat.add_mul_div_right _ _ (show 0 < n by omega), Nat.div_eq_of_lt hb, Nat.div_eq_of_lt hy] at h2
  exact ⟨by omega, h1⟩
end Go.Proofs.Ytdkodhonaoecnaa
