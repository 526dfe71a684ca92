/- Colourings with other colours. No condition. -/
import Derived.Test.YtkadckhealbdaaaS5Made
namespace Go.Proofs.Ytkadckhealbdaaa
open Go Go.RowKit Eng Mem
set_option maxRecDepth 100000
def recF (x : Col) (k : Int) (f : Int → Int) : Col := colF x.n k fun e => f (x.e e)
def esT (x : Col) (f : Int → Int) (m : Nat) : List Int := (List.range 136).map fun e => if e < m then f (x.e e) else x.e e
theorem esT_len (x : Col) (f : Int → Int) (m : Nat) : (esT x f m).length = 136 := by simp [esT]
theorem esT_0 {x : Col} (h : x.Ok) (f : Int → Int) : esT x f 0 = x.es := by
  apply List.ext_getElem
  · rw [esT_len, h.len]
  · intro i h1 h2; simp [esT, Col.e, h2]
theorem esT_e (x : Col) (f : Int → Int) {m i : Nat} (hi : i < 136) (n k : Int) : (⟨n, k, esT x f m⟩ : Col).e i = if i < m then f (x.e i) else x.e i := by
  simp [Col.e, esT, hi]
theorem esT_set (x : Col) (f : Int → Int) {m : Nat} (h : m < 136) : (esT x f m).set m (f (x.e m)) = esT x f (m + 1) := by
  apply List.ext_getElem?
  intro i
  by_cases hi : i = m
  · subst hi
    rw [List.getElem?_set_self (by rw [esT_len]; exact h)]
    simp [esT, h]
  · rw [List.getElem?_set_ne (Ne.symm hi)]
    by_cases h2 : i < 136
    · simp only [esT, List.getElem?_map, List.getElem?_range h2, Option.map_some]
      congr 1
      by_cases h3 : i < m
      · rw [if_pos h3, if_pos (by omega)]
      · rw [if_neg h3, if_neg (by omega)]
    · rw [List.getElem?_eq_none (by rw [esT_len]; omega), List.getElem?_eq_none (by rw [esT_len]; omega)]
theorem esT_end {x : Col} (h : x.Is) (f : Int → Int) (k : Int) : (⟨x.n, k, esT x f (edgesOf x.n).toNat⟩ : Col) = recF x k f := by
  have hb := edges_bd (n := x.n) (by have := h.1; omega) h.2.1
  unfold recF colF
  congr 1
  unfold esT esF
  apply List.map_congr_left
  intro e he
  have he : e < 136 := by simpa using he
  have := h.2.2.2.2 e he
  by_cases h1 : e < (edgesOf x.n).toNat
  · rw [if_pos h1, if_pos h1]
  · rw [if_neg (by omega)] at this
    rw [if_neg h1, if_neg h1, this]
theorem esT_byte {x : Col} (h : x.Ok) {f : Int → Int} {m : Nat} (hf : ∀ e, e < m → 0 ≤ f (x.e e) ∧ f (x.e e) < 256) : ∀ e ∈ esT x f m, 0 ≤ e ∧ e < 256 := by
  intro e he
  obtain ⟨i, _, rfl⟩ := List.mem_map.1 he
  by_cases hi : i < m
  · simp only [hi, if_true]; exact hf i hi
  · simp only [hi, if_false]; exact h.e_bd i
theorem recF_ok {x : Col} (hx : x.Ok) {k : Int} {f : Int → Int} (hk : I64 k) (h : ∀ e, e < (edgesOf x.n).toNat → 0 ≤ f (x.e e) ∧ f (x.e e) < 256) : (recF x k f).Ok := colF_ok ⟨hx.n0, hx.n1⟩ hk h
/-- The colours of a colouring. -/
theorem is_e {x : Col} (h : x.Is) (hx : x.Ok) {e : Nat} (he : e < (edgesOf x.n).toNat) : 0 ≤ x.e e ∧ x.e e < x.k := by
  have hb := edges_bd (n := x.n) (by have := h.1; omega) h.2.1
  have := h.2.2.2.2 e (by omega)
  rw [if_pos (by omega)] at this
  exact ⟨(hx.e_bd e).1, this⟩
def joinG (c d e : Int) : Int := if e = d then c else if e > d then e - 1 else e
def JoinIs (x : Col) (c d : Int) : Prop := (0 ≤ c ∧ c ≤ x.k - 1) ∧ (0 ≤ d ∧ d ≤ x.k - 1) ∧ c < d
instance (x : Col) (c d : Int) : Decidable (JoinIs x c d) := by unfold JoinIs; infer_instance
def joinF (x : Col) (c d : Int) : Col × Int := if x.Is then (if JoinIs x c d then (recF x (x.k - 1) (joinG c d), 0) else (col0, 2)) else (col0, 1)
theorem joinG_bd {x : Col} {c d e : Int} (h : JoinIs x c d) (h4 : x.k ≤ 4) (e0 : 0 ≤ e) (e1 : e < x.k) : 0 ≤ joinG c d e ∧ joinG c d e < 256 := by
  have h1 := h.1; have h2 := h.2.1; have h3 := h.2.2
  unfold joinG
  split
  · omega
  · split <;> omega
theorem joinF_ok {x : Col} (hx : x.Ok) (c d : Int) : (joinF x c d).1.Ok := by
  unfold joinF
  split
  · rename_i hI
    split
    · rename_i h
      have hk := hI.2.2.2.1; have hk1 := hI.2.2.1
      exact recF_ok hx ⟨by omega, by omega⟩ fun e he => joinG_bd h hk (is_e hI hx he).1 (is_e hI hx he).2
    · exact col0_ok
  · exact col0_ok
/-- A variable made after a block is another block. -/
theorem CVar.ne' {w w' : World} {p : Value} {b : Nat} {o : Obj} (h : CVar w.heap.size w' p) (hb : w.heap[b]? = some o) : p ≠ ptr b 0 := by
  obtain ⟨b', l, rfl, hB, hl, hn⟩ := h
  have := at_lt hb
  intro he
  injection he with he; injection he with he; injection he with he
  omega
end Go.Proofs.Ytkadckhealbdaaa
