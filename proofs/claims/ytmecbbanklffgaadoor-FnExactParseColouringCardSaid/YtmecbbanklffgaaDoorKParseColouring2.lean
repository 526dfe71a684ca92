/- Texts that the law FnExactParseColouring needs, joined. No condition. -/
import Derived.Lib.Replace
import Derived.Lib.Join
import Derived.Lib.ItoaNum
import Derived.Lib.ParseIntB
import Derived.Shelf.Strings.OnBuilder
import Derived.Shelf.LaysM
import Derived.Shelf.LaysC
import Derived.Shelf.Strconv.Itoa4
import Derived.Shelf.Strconv.ParseIntPublic10
import Derived.Shelf.Strings.Cut
import Derived.Shelf.Strings.Replace
import Derived.Test.YtmecbbanklffgaaDoorProg
import Derived.Laws.Strings3
import Derived.Laws.IdiomStrings
import Derived.Laws.Concat
import Derived.WideLaws
import Derived.Lib.AppendIntMem
import Derived.Lib.AtoiErrMem
import Derived.Lib.SmallJoins
import Derived.Test.YtmecbbanklffgaaDoorKParseColouring1
set_option linter.all false
/- Texts of colourings, as plain lists of bytes. No condition. -/
namespace Go.Proofs.YtmecbbanklffgaaDoor
open Go Go.RowKit Eng Mem
set_option linter.unusedVariables false
set_option maxRecDepth 100000
abbrev BL := List UInt8
/-! ### Splitting and joining -/
def splitA (b : UInt8) : BL → BL → List BL
  | acc, [] => [acc]
  | acc, x :: s => if x = b then acc :: splitA b [] s else splitA b (acc ++ [x]) s
def jn (b : UInt8) : List BL → BL
  | [] => []
  | [x] => x
  | x :: y :: r => x ++ b :: jn b (y :: r)
theorem splitA_cons (b : UInt8) : ∀ (s acc : BL), ∃ h r, splitA b acc s = h :: r
  | [], acc => ⟨acc, [], rfl⟩
  | x :: s, acc => by
    unfold splitA
    split
    · exact ⟨_, _, rfl⟩
    · exact splitA_cons b s _
theorem jn_splitA (b : UInt8) : ∀ (s acc : BL), jn b (splitA b acc s) = acc ++ s
  | [], acc => by simp [splitA, jn]
  | x :: s, acc => by
    unfold splitA
    split
    · rename_i h
      subst h
      obtain ⟨y, r, e⟩ := splitA_cons x s []
      have := jn_splitA x s []
      rw [e] at this ⊢
      simp only [jn, this]
      simp
    · rw [jn_splitA b s]; simp
theorem splitA_app {b : UInt8} : ∀ {a : BL} (acc s : BL), b ∉ a → splitA b acc (a ++ s) = splitA b (acc ++ a) s
  | [], acc, s, _ => by simp
  | x :: a, acc, s, h => by
    simp only [List.mem_cons, not_or] at h
    rw [List.cons_append, splitA, if_neg (fun e => h.1 e.symm), splitA_app _ _ h.2]
    simp
theorem splitA_jn {b : UInt8} : ∀ {xs : List BL}, xs ≠ [] → (∀ x ∈ xs, b ∉ x) → splitA b [] (jn b xs) = xs
  | [], h, _ => absurd rfl h
  | [x], _, h => by
    have := splitA_app [] [] (h x (by simp))
    simp only [List.append_nil, List.nil_append] at this
    simp only [jn]; rw [this]; rfl
  | x :: y :: r, _, h => by
    simp only [jn]
    rw [splitA_app [] _ (h x (by simp)), List.nil_append, splitA, if_pos rfl, splitA_jn (by simp) (fun z hz => h z (by simp [List.mem_cons] at hz ⊢; exact Or.inr hz))]
theorem join_jn (b : UInt8) : ∀ xs : List BL, Lib.join xs [b] = jn b xs
  | [] => rfl
  | [x] => by rw [Lib.join_one]; rfl
  | x :: y :: r => by
    have h := join_jn b (y :: r)
    rw [Lib.join_cons] at h ⊢
    simp only [jn]
    rw [← h]
    simp [Lib.joinTail]
theorem jn_not {b c : UInt8} (hc : c ≠ b) : ∀ {xs : List BL}, (∀ x ∈ xs, c ∉ x) → c ∉ jn b xs
  | [], _ => by simp [jn]
  | [x], h => h x (by simp)
  | x :: y :: r, h => by
    have h1 := h x (by simp)
    have h2 := jn_not hc (xs := y :: r) fun z hz => h z (by simp [List.mem_cons] at hz ⊢; exact Or.inr hz)
    simp only [jn, List.mem_append, List.mem_cons, not_or]
    exact ⟨h1, hc, h2⟩
/-! ### The library's words at one byte -/
theorem index_hit1 {b : UInt8} : ∀ {a : BL} (r : BL), b ∉ a → Lib.index (a ++ b :: r) [b] = a.length
  | [], r, _ => by simp [Lib.index, List.isPrefixOf]
  | x :: a, r, h => by
    simp only [List.mem_cons, not_or] at h
    have ih := index_hit1 r h.2
    simp only [List.cons_append]
    unfold Lib.index
    rw [if_neg (by simp [List.isPrefixOf]; exact h.1), ih, if_neg (by simp only [beq_iff_eq]; omega)]
    simp
theorem index_none1 {b : UInt8} : ∀ {a : BL}, b ∉ a → Lib.index a [b] = -1
  | [], _ => by simp [Lib.index]
  | x :: a, h => by
    simp only [List.mem_cons, not_or] at h
    unfold Lib.index
    rw [if_neg (by simp [List.isPrefixOf]; exact h.1), index_none1 h.2]
    simp
theorem cut_hit {b : UInt8} {a r : BL} (h : b ∉ a) : Lib.cut (a ++ b :: r) [b] = (a, r, true) := by
  unfold Lib.cut
  rw [index_hit1 r h, if_pos (by omega)]
  simp
theorem mem_split {b : UInt8} : ∀ {s : BL}, b ∈ s → ∃ a r, s = a ++ b :: r ∧ b ∉ a
  | x :: s, h => by
    by_cases hx : x = b
    · subst hx; exact ⟨[], s, rfl, by simp⟩
    · have : b ∈ s := by
        rcases List.mem_cons.1 h with h | h
        · exact absurd h.symm hx
        · exact h
      obtain ⟨a, r, rfl, ha⟩ := mem_split this
      exact ⟨x :: a, r, rfl, by simp only [List.mem_cons, not_or]; exact ⟨fun e => hx e.symm, ha⟩⟩
theorem filter_not {b : UInt8} {a : BL} (h : b ∉ a) : a.filter (· != b) = a := by
  rw [List.filter_eq_self]
  intro x hx
  simp only [bne_iff_ne]
  intro e; subst e; exact h hx
theorem replK {b : UInt8} : ∀ (f : Nat) (s : BL), s.length < f → Lib.replaceK [b] [] (Lib.countFrom [b] f s) s = s.filter (· != b)
  | 0, s, h => absurd h (by omega)
  | f + 1, s, h => by
    unfold Lib.countFrom
    by_cases hb : b ∈ s
    · obtain ⟨a, r, rfl, ha⟩ := mem_split hb
      rw [index_hit1 r ha, if_neg (by simp only [beq_iff_eq]; omega)]
      have e : (a ++ b :: r).drop (((a.length : Nat) : Int).toNat + [b].length) = r := by simp
      rw [e, Nat.add_comm 1, Lib.replaceK, index_hit1 r ha, if_neg (by simp only [beq_iff_eq]; omega), e]
      have := replK (b := b) f r (by simp at h; omega)
      rw [this, List.filter_append, filter_not ha]
      simp
    · rw [index_none1 hb]
      simp only [beq_self_eq_true, if_true, Lib.replaceK]
      rw [filter_not hb]
theorem repl_filter (b : UInt8) (s : BL) : Lib.replaceAll s [b] [] = s.filter (· != b) := by
  unfold Lib.replaceAll Lib.replace
  rw [if_neg (by simp)]
  unfold Lib.replaceNum Lib.count
  rw [if_pos (by omega)]
  exact replK _ s (by omega)
theorem filter_jn {b : UInt8} : ∀ {xs : List BL}, (∀ x ∈ xs, b ∉ x) → (jn b xs).filter (· != b) = xs.flatten
  | [], _ => rfl
  | [x], h => by simp only [jn]; rw [filter_not (h x (by simp))]; simp
  | x :: y :: r, h => by
    have ih := filter_jn (xs := y :: r) fun z hz => h z (by simp [List.mem_cons] at hz ⊢; exact Or.inr hz)
    simp only [jn]
    rw [List.filter_append, filter_not (h x (by simp)), List.filter_cons_of_neg (by simp), ih]
    simp
/-! ### Numbers -/
def decS (n : Nat) : BL := if n < 10 then [UInt8.ofNat (48 + n)] else [UInt8.ofNat (48 + n / 10), UInt8.ofNat (48 + n % 10)]
theorem dec_small {n : Nat} (h : n < 100) : Lib.decDigits n = decS n := by
  unfold decS
  by_cases h10 : n < 10
  · rw [Lib.decDigits, dif_pos h10, if_pos h10]
  · rw [Lib.decDigits, dif_neg h10, if_neg h10, Lib.decDigits, dif_pos (by omega)]; rfl
theorem itoa_small {n : Int} (h0 : 0 ≤ n) (h : n < 100) : Lib.itoa n = decS n.toNat := by
  unfold Lib.itoa; rw [if_neg (by omega), dec_small (by omega)]
theorem parse_dec : ∀ n : Fin 18, Lib.parseIntB 64 (decS n.val) = .ok (n.val : Int) := by decide +kernel
theorem dec_not : ∀ n : Fin 18, (44 : UInt8) ∉ decS n.val ∧ (58 : UInt8) ∉ decS n.val := by decide +kernel
def numF : Int → BL → Int
  | acc, [] => acc
  | acc, x :: r => if 48 ≤ x.toNat ∧ x.toNat ≤ 57 then numF (acc * 10 + ((x.toNat : Int) - 48)) r else -1
def numB (s : BL) : Int := if s.length = 0 ∨ 9 < s.length ∨ (1 < s.length ∧ s.head? = some 48) then -1 else numF 0 s
theorem num_dec : ∀ n : Fin 18, numB (decS n.val) = (n.val : Int) := by decide +kernel
theorem numF_le : ∀ {s : BL} {acc : Int}, 0 ≤ acc → 0 ≤ numF acc s → acc ≤ numF acc s
  | [], acc, h, _ => Int.le_refl _
  | x :: r, acc, h, h2 => by
    unfold numF at h2 ⊢
    split
    · rename_i hx
      rw [if_pos hx] at h2
      have := numF_le (s := r) (acc := acc * 10 + ((x.toNat : Int) - 48)) (by omega) h2
      omega
    · rename_i hx
      rw [if_neg hx] at h2
      omega
theorem u8_of {x : UInt8} {n : Nat} (h : x.toNat = n) : x = UInt8.ofNat n := by subst h; simp
theorem num_is {s : BL} (h0 : 0 ≤ numB s) (h1 : numB s ≤ 17) : s = decS (numB s).toNat := by
  unfold numB at h0 h1 ⊢
  split at h0
  · omega
  · rename_i hc
    rw [if_neg hc] at h1 ⊢
    match s, hc, h0, h1 with
    | [], hc, _, _ => simp at hc
    | [x], _, h0, h1 =>
      by_cases hx : 48 ≤ x.toNat ∧ x.toNat ≤ 57
      · simp only [numF, if_pos hx] at h0 h1 ⊢
        unfold decS
        rw [if_pos (by omega), ← u8_of (x := x) (by omega)]
      · simp only [numF, if_neg hx] at h0; omega
    | [x, y], hc, h0, h1 =>
      by_cases hx : 48 ≤ x.toNat ∧ x.toNat ≤ 57
      · by_cases hy : 48 ≤ y.toNat ∧ y.toNat ≤ 57
        · simp only [numF, if_pos hx, if_pos hy] at h0 h1 ⊢
          have hx0 : x.toNat ≠ 48 := fun e => by
            have : x = 48 := by rw [u8_of e]; rfl
            subst this; simp at hc
          unfold decS
          rw [if_neg (by omega), ← u8_of (x := x) (by omega), ← u8_of (x := y) (by omega)]
        · simp only [numF, if_pos hx, if_neg hy] at h0; omega
      · simp only [numF, if_neg hx] at h0; omega
    | x :: y :: z :: r, hc, h0, h1 =>
      by_cases hx : 48 ≤ x.toNat ∧ x.toNat ≤ 57
      · by_cases hy : 48 ≤ y.toNat ∧ y.toNat ≤ 57
        · by_cases hz : 48 ≤ z.toNat ∧ z.toNat ≤ 57
          · simp only [numF, if_pos hx, if_pos hy, if_pos hz] at h0 h1
            have hx0 : x.toNat ≠ 48 := fun e => by
              have : x = 48 := by rw [u8_of e]; rfl
              subst this; simp at hc
            have := numF_le (by omega) h0
            omega
          · simp only [numF, if_pos hx, if_pos hy, if_neg hz] at h0; omega
        · simp only [numF, if_pos hx, if_neg hy] at h0; omega
      · simp only [numF, if_neg hx] at h0; omega
/-! ### Rows of edges -/
def tri : Nat → Nat
  | 0 => 0
  | m + 1 => tri m + (m + 1)
theorem tri_edges : ∀ n : Fin 18, 1 ≤ n.val → edgesOf (n.val : Int) = tri (n.val - 1) := by decide +kernel
theorem tri_mono : ∀ {a b : Nat}, a ≤ b → tri a ≤ tri b := by
  intro a b h
  induction h with
  | refl => exact Nat.le_refl _
  | step _ ih => simp only [tri]; omega
theorem enum_tri {i j : Nat} (h : i < j) (hj : j ≤ 17) : enum i j = ((tri (j - 1) + i : Nat) : Int) := by
  have := tri_edges ⟨j, by omega⟩ (by simp only; omega)
  simp only at this
  rw [enum_eq, this]
  omega
def dg (e : Int) : UInt8 := UInt8.ofNat (48 + e.toNat)
/-- What a byte that is a digit says. -/
def un (x : UInt8) : Int := IntKind.u8.wrap ((x.toNat : Int) - 48)
theorem dg_nat {e : Int} (h0 : 0 ≤ e) (h1 : e < 10) : (dg e).toNat = 48 + e.toNat := by
  unfold dg; rw [UInt8.toNat_ofNat']; omega
theorem un_dg {e : Int} (h0 : 0 ≤ e) (h1 : e < 10) : un (dg e) = e := by
  unfold un; rw [dg_nat h0 h1, Mem.wrap_u8 (by omega) (by omega)]; omega
theorem dg_not {e : Int} (h0 : 0 ≤ e) (h1 : e < 10) : dg e ≠ 44 ∧ dg e ≠ 58 := by
  have := dg_nat h0 h1
  constructor
  · intro h; rw [h] at this; have : (44 : UInt8).toNat = 44 := rfl; omega
  · intro h; rw [h] at this; have : (58 : UInt8).toNat = 58 := rfl; omega
def rowT (c : Col) (j : Nat) : BL := (List.range j).map fun i => dg (c.e (tri (j - 1) + i))
def rowsT (c : Col) (m : Nat) : List BL := (List.range m).map fun t => rowT c (t + 1)
theorem rowT_len (c : Col) (j : Nat) : (rowT c j).length = j := by simp [rowT]
theorem rowsT_len (c : Col) (m : Nat) : (rowsT c m).length = m := by simp [rowsT]
theorem rowsT_succ (c : Col) (m : Nat) : rowsT c (m + 1) = rowsT c m ++ [rowT c (m + 1)] := by simp [rowsT, List.range_succ]
theorem rows_flat (c : Col) : ∀ m : Nat, (rowsT c m).flatten = (List.range (tri m)).map fun i => dg (c.e i)
  | 0 => rfl
  | m + 1 => by
    rw [rowsT_succ, List.flatten_append, rows_flat c m]
    simp only [tri, List.flatten_cons, List.flatten_nil, List.append_nil, rowT, Nat.add_sub_cancel]
    rw [List.range_add (m := m + 1), List.map_append, List.map_map]
    rfl
def headT (c : Col) : BL := decS c.n.toNat ++ 44 :: decS c.k.toNat
def tailT (c : Col) : BL := jn 44 (rowsT c (c.n.toNat - 1))
def textT (c : Col) : BL := headT c ++ 58 :: tailT c
theorem Is.e_bd {c : Col} (h : c.Is) (ho : c.Ok) (i : Nat) : 0 ≤ c.e i ∧ c.e i < 4 := by
  have hb := ho.e_bd i
  refine ⟨hb.1, ?_⟩
  by_cases hi : i < 136
  · have := h.2.2.2.2 i hi
    have := h.2.2.2.1
    split at * <;> omega
  · unfold Col.e
    rw [List.getD_eq_getElem?_getD, List.getElem?_eq_none (by rw [ho.len]; omega)]
    simp
theorem rows_not {c : Col} (h : c.Is) (ho : c.Ok) (m : Nat) : ∀ x ∈ rowsT c m, (44 : UInt8) ∉ x ∧ (58 : UInt8) ∉ x := by
  intro x hx
  simp only [rowsT, List.mem_map] at hx
  obtain ⟨t, _, rfl⟩ := hx
  simp only [rowT, List.mem_map]
  refine ⟨?_, ?_⟩
  · rintro ⟨i, _, e⟩
    have := Is.e_bd h ho (tri (t + 1 - 1) + i)
    exact (dg_not this.1 (by omega)).1 e
  · rintro ⟨i, _, e⟩
    have := Is.e_bd h ho (tri (t + 1 - 1) + i)
    exact (dg_not this.1 (by omega)).2 e
theorem fin_n {c : Col} (h : c.Is) : c.n.toNat < 18 ∧ c.k.toNat < 18 := by have := h.1; have := h.2.1; have := h.2.2.1; have := h.2.2.2.1; omega
theorem head_not {c : Col} (h : c.Is) : (58 : UInt8) ∉ headT c := by
  have hf := fin_n h
  unfold headT
  simp only [List.mem_append, List.mem_cons, not_or]
  exact ⟨(dec_not ⟨_, hf.1⟩).2, by decide, (dec_not ⟨_, hf.2⟩).2⟩
theorem split_text {c : Col} (h : c.Is) (ho : c.Ok) : splitA 58 [] (textT c) = [headT c, tailT c] := by
  have := splitA_jn (b := 58) (xs := [headT c, tailT c]) (by simp) (fun x hx => by
    simp only [List.mem_cons, List.not_mem_nil, or_false] at hx
    rcases hx with rfl | rfl
    · exact head_not h
    · exact jn_not (by decide) fun x hx => (rows_not h ho _ x hx).2)
  exact this
theorem split_head {c : Col} (h : c.Is) : splitA 44 [] (headT c) = [decS c.n.toNat, decS c.k.toNat] := by
  have hf := fin_n h
  exact splitA_jn (b := 44) (xs := [decS c.n.toNat, decS c.k.toNat]) (by simp) (fun x hx => by
    simp only [List.mem_cons, List.not_mem_nil, or_false] at hx
    rcases hx with rfl | rfl
    · exact (dec_not ⟨_, hf.1⟩).1
    · exact (dec_not ⟨_, hf.2⟩).1)
theorem split_tail {c : Col} (h : c.Is) (ho : c.Ok) (hn : c.n ≠ 1) : splitA 44 [] (tailT c) = rowsT c (c.n.toNat - 1) := by
  refine splitA_jn ?_ fun x hx => (rows_not h ho _ x hx).1
  intro e
  have := congrArg List.length e
  rw [rowsT_len] at this
  simp at this
  have := h.1
  omega
theorem cut_text {c : Col} (h : c.Is) : Lib.cut (textT c) [58] = (headT c, tailT c, true) := cut_hit (head_not h)
theorem cut_head {c : Col} (h : c.Is) : Lib.cut (headT c) [44] = (decS c.n.toNat, decS c.k.toNat, true) := cut_hit (dec_not ⟨_, (fin_n h).1⟩).1
theorem repl_tail {c : Col} (h : c.Is) (ho : c.Ok) : Lib.replaceAll (tailT c) [44] [] = (List.range (tri (c.n.toNat - 1))).map fun i => dg (c.e i) := by
  rw [repl_filter]
  unfold tailT
  rw [filter_jn fun x hx => (rows_not h ho _ x hx).1, rows_flat]
/-! ### The colouring of digits -/
def esX (d : BL) : List Int := d.map un ++ List.replicate (136 - d.length) 0
def colX (n k : Int) (d : BL) : Col := ⟨n, k, esX d⟩
theorem esX_len {d : BL} (h : d.length ≤ 136) : (esX d).length = 136 := by simp [esX]; omega
theorem un_bd (x : UInt8) : 0 ≤ un x ∧ un x < 256 := by unfold un; rw [IntKind.wrap_u8]; omega
theorem colX_ok {n k : Int} {d : BL} (h : d.length ≤ 136) (hn : I64 n) (hk : I64 k) : (colX n k d).Ok := by
  refine ⟨esX_len h, fun e he => ?_, hn.1, hn.2, hk.1, hk.2⟩
  simp only [colX, esX, List.mem_append, List.mem_map, List.mem_replicate] at he
  rcases he with ⟨x, _, rfl⟩ | ⟨_, rfl⟩
  · exact un_bd x
  · omega
theorem colX_e {n k : Int} {d : BL} {i : Nat} : (colX n k d).e i = if h : i < d.length then un d[i] else 0 := by
  unfold Col.e colX esX
  by_cases h : i < d.length
  · rw [dif_pos h, List.getD_eq_getElem?_getD, List.getElem?_append_left (by simpa using h)]
    simp [h]
  · rw [dif_neg h, List.getD_eq_getElem?_getD, List.getElem?_append_right (by simp; omega)]
    by_cases h2 : i - d.length < 136 - d.length
    · simp [h2]
    · rw [List.getElem?_eq_none (by simp; omega)]; rfl
theorem esX_snoc {d : BL} {x : UInt8} (h : d.length < 136) : (esX d).set d.length (un x) = esX (d ++ [x]) := by
  unfold esX
  rw [List.set_append_right _ _ (by simp)]
  simp only [List.length_map, Nat.sub_self, List.map_append, List.map_cons, List.map_nil, List.length_append, List.length_cons, List.length_nil]
  rw [show 136 - d.length = (136 - (d.length + 1)) + 1 from by omega, List.replicate_succ, List.set_cons_zero]
  simp
theorem colX_self {c : Col} (h : c.Is) (ho : c.Ok) : colX c.n c.k ((List.range (tri (c.n.toNat - 1))).map fun i => dg (c.e i)) = c := by
  have ht := tri_edges ⟨c.n.toNat, (fin_n h).1⟩ (by have := h.1; simp only; omega)
  have hnn : ((c.n.toNat : Nat) : Int) = c.n := by have := h.1; omega
  simp only [hnn] at ht
  have hle := edges_le h.1 h.2.1
  have hl : ((List.range (tri (c.n.toNat - 1))).map fun i => dg (c.e i)).length ≤ 136 := by simp; omega
  have he : (colX c.n c.k ((List.range (tri (c.n.toNat - 1))).map fun i => dg (c.e i))).es = c.es := by
    apply List.ext_getElem
    · rw [ho.len]; exact esX_len hl
    · intro i h1 h2
      have e1 : ∀ (x : Col) (hx : i < x.es.length), x.es[i] = x.e i := fun x hx => by simp [Col.e, hx]
      rw [e1 _ h1, e1 _ h2, colX_e]
      have h136 : i < 136 := by rw [← ho.len]; exact h2
      have hz := h.2.2.2.2 i h136
      have hb := Is.e_bd h ho i
      by_cases hi : i < tri (c.n.toNat - 1)
      · rw [dif_pos (by simpa using hi)]
        simp only [List.getElem_map, List.getElem_range]
        exact un_dg hb.1 (by omega)
      · rw [dif_neg (by simpa using hi)]
        rw [if_neg (by omega)] at hz
        exact hz.symm
  unfold colX at he ⊢
  simp only at he
  rw [he]
/-- How the two functions answer. -/
def Res (t : BL) (c : Col) (m : Int) : Prop := (m = 0 ∧ c.Ok ∧ c.Is ∧ t = textT c) ∨ (m = 6 ∧ c = col0 ∧ ∀ c' : Col, c'.Ok → c'.Is → t ≠ textT c')
theorem text_inj {c c' : Col} (h : c.Is) (ho : c.Ok) (h' : c'.Is) (ho' : c'.Ok) (e : textT c = textT c') : c = c' := by
  have e1 := split_text h ho
  rw [e, split_text h' ho'] at e1
  injection e1 with eh e1
  injection e1 with et _
  have e2 := split_head h
  rw [← eh, split_head h'] at e2
  injection e2 with en e2
  injection e2 with ek _
  have hn : c.n = c'.n := by
    have a := num_dec ⟨_, (fin_n h).1⟩
    have b := num_dec ⟨_, (fin_n h').1⟩
    simp only at a b
    rw [← en, b] at a
    have := h.1; have := h'.1
    omega
  have hk : c.k = c'.k := by
    have a := num_dec ⟨_, (fin_n h).2⟩
    have b := num_dec ⟨_, (fin_n h').2⟩
    simp only at a b
    rw [← ek, b] at a
    have := h.2.2.1; have := h'.2.2.1
    omega
  have a := colX_self h ho
  have b := colX_self h' ho'
  rw [← repl_tail h ho] at a
  rw [← repl_tail h' ho'] at b
  rw [← a, ← b, et, hn, hk]
theorem res_one {t : BL} {c c' : Col} {m m' : Int} (h : Res t c m) (h' : Res t c' m') : c = c' ∧ m = m' := by
  rcases h with ⟨rfl, a, b, e⟩ | ⟨rfl, rfl, n⟩ <;> rcases h' with ⟨rfl, a', b', e'⟩ | ⟨rfl, rfl, n'⟩
  · exact ⟨text_inj b a b' a' (e.symm.trans e'), rfl⟩
  · exact absurd e (n' c a b)
  · exact absurd e' (n c' a' b')
  · exact ⟨rfl, rfl⟩
end Go.Proofs.YtmecbbanklffgaaDoor

/- The contracts of the library that this seat needs, laid at its program by the kit's tools. No condition. -/
namespace Go.Proofs
open Go.Shelf
def Tryd.lays156_ren : Go.Shelf.Ren := ⟨fun | 156 => 26 | 165 => 32 | 166 => 34 | 169 => 36 | 240 => 50 | 241 => 51 | 276 => 64 | 277 => 65 | n => n, fun | 31 => 40 | 9 => 9 | 3 => 3 | 4 => 4 | 0 => 0 | 20 => 20 | 72 => 60 | 76 => 62 | 70 => 58 | 37 => 53 | 75 => 46 | 127 => 77 | 164 => 92 | 5 => 5 | 80 => 38 | n => n, fun | n => n⟩
theorem Tryd.lays156 : Go.Proofs.Lays.n156 Tryd.prog Tryd.lays156_ren := {
  mixed := by kernel_rfl
  f156 := Tryd.func26.trans (congrArg some (by kernel_rfl))
  f165 := Tryd.func32.trans (congrArg some (by kernel_rfl))
  f166 := Tryd.func34.trans (congrArg some (by kernel_rfl))
  f169 := Tryd.func36.trans (congrArg some (by kernel_rfl))
  f240 := Tryd.func50.trans (congrArg some (by kernel_rfl))
  f241 := Tryd.func51.trans (congrArg some (by kernel_rfl))
  f276 := Tryd.func64.trans (congrArg some (by kernel_rfl))
  f277 := Tryd.func65.trans (congrArg some (by kernel_rfl))
  t0 := Tryd.underlying0
  a0 := Tryd.isAgg0
  z0 := Tryd.sizeOf0
  v0 := Tryd.zeroValue0
  t3 := Tryd.underlying3
  a3 := Tryd.isAgg3
  z3 := Tryd.sizeOf3
  v3 := Tryd.zeroValue3
  t4 := Tryd.underlying4
  a4 := Tryd.isAgg4
  z4 := Tryd.sizeOf4
  v4 := Tryd.zeroValue4
  t9 := Tryd.underlying9
  a9 := Tryd.isAgg9
  z9 := Tryd.sizeOf9
  v9 := Tryd.zeroValue9
  t20 := Tryd.underlying20
  a20 := Tryd.isAgg20
  z20 := Tryd.sizeOf20
  v20 := Tryd.zeroValue20
  t31 := Tryd.underlying40
  a31 := Tryd.isAgg40
  z31 := Tryd.sizeOf40
  v31 := Tryd.zeroValue40
  t37 := Tryd.underlying53
  a37 := Tryd.isAgg53
  z37 := Tryd.sizeOf53
  v37 := Tryd.zeroValue53
  t70 := Tryd.underlying58
  a70 := Tryd.isAgg58
  z70 := Tryd.sizeOf58
  v70 := Tryd.zeroValue58
  t72 := Tryd.underlying60
  a72 := Tryd.isAgg60
  z72 := Tryd.sizeOf60
  v72 := Tryd.zeroValue60
  t75 := Tryd.underlying46
  a75 := Tryd.isAgg46
  z75 := Tryd.sizeOf46
  v75 := Tryd.zeroValue46
  t76 := Tryd.underlying62
  a76 := Tryd.isAgg62
  z76 := Tryd.sizeOf62
  v76 := Tryd.zeroValue62
  t127 := Tryd.underlying77
  a127 := Tryd.isAgg77
  z127 := Tryd.sizeOf77
  v127 := Tryd.zeroValue77
  t164 := Tryd.underlying92
  a164 := Tryd.isAgg92
  z164 := Tryd.sizeOf92
  v164 := Tryd.zeroValue92 }
theorem Tryd.Builder_Extra_156 : Builder.Extra Tryd.prog Tryd.lays156_ren := {
  sizeBuilder := by kernel_rfl
  liesBuilder := by kernel_rfl
  t5 := Tryd.underlying5
  a5 := Tryd.isAgg5
  z5 := Tryd.sizeOf5
  v5 := Tryd.zeroValue5
  infoByte := by kernel_rfl
  cellsByte := by kernel_rfl
  sizeByte := by kernel_rfl
  neB5 := by decide }
open Go.RowKit in
/-- No element: the empty string; the world is as it was. (Whatever the slice's address and capacity: a nil slice too.) (LAID: no walk: one application.) -/
theorem Tryd.strings_Join_none (a : Option Addr) (c : Nat) (sep : ByteArray) (w : World) :
    Calls Tryd.prog 26 #[.slice a 0 c, .string sep] w fun e w' => e = .returned (.string ⟨#[]⟩) ∧ w' = w := Any.strings_Join_none Tryd.lays156 Tryd.Builder_Extra_156 a c sep w
open Go.RowKit in
/-- strings.Join: "Join concatenates the elements of its first argument to create a single string. The separator string sep is placed between elements in the resulting string.": HOWEVER MANY ELEMENTS. Below the heap's end the world is as it was. (LAID: no walk: one application.) -/
theorem Tryd.strings_Join (bk o c : Nat) (xs : List ByteArray) (sep : ByteArray) (w : World) (hcells : ∀ (j : Nat) x, xs[j]? = some x → w.cell? ⟨bk, o + j, none⟩ = some (.string x)) (hbk : bk < w.heap.size) (hN : xs.length ≤ 140737488355328) (hcap : xs.length ≤ c) (hlen : (Lib.join (xs.map (·.data.toList)) sep.data.toList).length ≤ 140737488355328) :
    Calls Tryd.prog 26 #[.slice (some ⟨bk, o, none⟩) xs.length c, .string sep] w fun e w' => e = .returned (.string ⟨(Lib.join (xs.map (·.data.toList)) sep.data.toList).toArray⟩) ∧ Below w.heap.size w w' := Any.strings_Join Tryd.lays156 Tryd.Builder_Extra_156 bk o c xs sep w hcells hbk hN hcap hlen
def Tryd.laysM173_ren : Go.Shelf.Ren := ⟨fun | 173 => 30 | 246 => 47 | 283 => 60 | 284 => 61 | 285 => 62 | 286 => 63 | 129 => 68 | 317 => 67 | 318 => 69 | 319 => 70 | 320 => 71 | 337 => 72 | 338 => 73 | n => n, fun | 2 => 2 | 3 => 3 | 9 => 9 | 4 => 4 | 171 => 87 | 0 => 0 | 53 => 70 | 37 => 53 | 5 => 5 | 173 => 90 | 212 => 103 | 51 => 78 | 20 => 20 | 213 => 104 | 46 => 68 | 232 => 108 | 233 => 109 | n => n, fun | 17 => 5 | 18 => 6 | 19 => 7 | n => n⟩
theorem Tryd.laysM173 : Go.Proofs.LaysM.n173 Tryd.prog Tryd.laysM173_ren := {
  mixed := by kernel_rfl
  f129 := Tryd.func68.trans (congrArg some (by kernel_rfl))
  f173 := Tryd.func30.trans (congrArg some (by kernel_rfl))
  f246 := Tryd.func47.trans (congrArg some (by kernel_rfl))
  f283 := Tryd.func60.trans (congrArg some (by kernel_rfl))
  f284 := Tryd.func61.trans (congrArg some (by kernel_rfl))
  f285 := Tryd.func62.trans (congrArg some (by kernel_rfl))
  f286 := Tryd.func63.trans (congrArg some (by kernel_rfl))
  f317 := Tryd.func67.trans (congrArg some (by kernel_rfl))
  f318 := Tryd.func69.trans (congrArg some (by kernel_rfl))
  f319 := Tryd.func70.trans (congrArg some (by kernel_rfl))
  f320 := Tryd.func71.trans (congrArg some (by kernel_rfl))
  f337 := Tryd.func72.trans (congrArg some (by kernel_rfl))
  f338 := Tryd.func73.trans (congrArg some (by kernel_rfl))
  t0 := Tryd.underlying0
  a0 := Tryd.isAgg0
  z0 := Tryd.sizeOf0
  v0 := Tryd.zeroValue0
  t2 := Tryd.underlying2
  a2 := Tryd.isAgg2
  z2 := Tryd.sizeOf2
  v2 := Tryd.zeroValue2
  t3 := Tryd.underlying3
  a3 := Tryd.isAgg3
  z3 := Tryd.sizeOf3
  v3 := Tryd.zeroValue3
  t4 := Tryd.underlying4
  a4 := Tryd.isAgg4
  z4 := Tryd.sizeOf4
  v4 := Tryd.zeroValue4
  t5 := Tryd.underlying5
  a5 := Tryd.isAgg5
  z5 := Tryd.sizeOf5
  v5 := Tryd.zeroValue5
  t9 := Tryd.underlying9
  a9 := Tryd.isAgg9
  z9 := Tryd.sizeOf9
  v9 := Tryd.zeroValue9
  t20 := Tryd.underlying20
  a20 := Tryd.isAgg20
  z20 := Tryd.sizeOf20
  v20 := Tryd.zeroValue20
  t37 := Tryd.underlying53
  a37 := Tryd.isAgg53
  z37 := Tryd.sizeOf53
  v37 := Tryd.zeroValue53
  t46 := Tryd.underlying68
  a46 := Tryd.isAgg68
  z46 := Tryd.sizeOf68
  v46 := Tryd.zeroValue68
  t51 := Tryd.underlying78
  a51 := Tryd.isAgg78
  z51 := Tryd.sizeOf78
  v51 := Tryd.zeroValue78
  t53 := Tryd.underlying70
  a53 := Tryd.isAgg70
  z53 := Tryd.sizeOf70
  v53 := Tryd.zeroValue70
  t171 := Tryd.underlying87
  a171 := Tryd.isAgg87
  z171 := Tryd.sizeOf87
  v171 := Tryd.zeroValue87
  t173 := Tryd.underlying90
  a173 := Tryd.isAgg90
  z173 := Tryd.sizeOf90
  v173 := Tryd.zeroValue90
  t212 := Tryd.underlying103
  a212 := Tryd.isAgg103
  z212 := Tryd.sizeOf103
  v212 := Tryd.zeroValue103
  t213 := Tryd.underlying104
  a213 := Tryd.isAgg104
  z213 := Tryd.sizeOf104
  t232 := Tryd.underlying108
  a232 := Tryd.isAgg108
  z232 := Tryd.sizeOf108
  v232 := Tryd.zeroValue108
  t233 := Tryd.underlying109
  a233 := Tryd.isAgg109
  z233 := Tryd.sizeOf109
  v233 := Tryd.zeroValue109
  g17 := by kernel_rfl
  g18 := by kernel_rfl
  g19 := by kernel_rfl
  i0 := by kernel_rfl
  i2 := by kernel_rfl
  i3 := by kernel_rfl
  i4 := by kernel_rfl
  i5 := by kernel_rfl
  i9 := by kernel_rfl
  i20 := by kernel_rfl
  i37 := by kernel_rfl
  i46 := by kernel_rfl
  i51 := by kernel_rfl
  i53 := by kernel_rfl
  i171 := by kernel_rfl
  i173 := by kernel_rfl
  i212 := by kernel_rfl
  i232 := by kernel_rfl
  i233 := by kernel_rfl
  m17 := by kernel_rfl
  m18 := by kernel_rfl
  m19 := by kernel_rfl }
open Go.RowKit Go.Sort Go.Lib in
/-- strconv.FormatInt: "FormatInt returns the string representation of i in the given base": AT BASE 10: i's decimal numeral, for every int64. (LAID: no walk: one application.) -/
theorem Tryd.strconv_FormatInt_10 (n : Int) (h0 : -9223372036854775808 ≤ n) (h1 : n ≤ 9223372036854775807) (w : World) (htab : Lib.TabIs Tryd.prog w "internal/strconv.uint64pow10" .u64 Lib.pow10Tab) :
    Calls Tryd.prog 30 #[.int .i64 n, .int .i64 10] w fun e w' => e = .returned (.string ⟨(Lib.itoa n).toArray⟩) ∧ ∃ k os, w' = grow (w.drewN k) os := Any.strconv_FormatInt_10 Tryd.laysM173 n h0 h1 w htab
def Tryd.laysC174_ren : Go.Shelf.Ren := ⟨fun | 174 => 20 | 247 => 28 | 245 => 29 | 287 => 42 | 279 => 43 | 280 => 44 | 281 => 45 | 282 => 46 | 321 => 55 | 322 => 56 | 316 => 57 | 171 => 59 | 205 => 58 | 243 => 66 | 246 => 47 | 283 => 60 | 284 => 61 | 285 => 62 | 286 => 63 | 129 => 68 | 317 => 67 | 318 => 69 | 319 => 70 | 320 => 71 | 337 => 72 | 338 => 73 | n => n, fun | 9 => 9 | 3 => 3 | 2 => 2 | 75 => 46 | 85 => 47 | 4 => 4 | 167 => 69 | 5 => 5 | 53 => 70 | 175 => 71 | 46 => 68 | 168 => 73 | 37 => 53 | 0 => 0 | 210 => 84 | 21 => 21 | 127 => 77 | 145 => 101 | 143 => 99 | 171 => 87 | 173 => 90 | 212 => 103 | 51 => 78 | 20 => 20 | 213 => 104 | 232 => 108 | 233 => 109 | 80 => 38 | n => n, fun | 15 => 1 | 16 => 2 | 17 => 5 | 18 => 6 | 19 => 7 | n => n⟩
theorem Tryd.laysC174 : Go.Proofs.LaysC.n174 Tryd.prog Tryd.laysC174_ren := {
  mixed := by kernel_rfl
  f129 := Tryd.func68.trans (congrArg some (by kernel_rfl))
  f171 := Tryd.func59.trans (congrArg some (by kernel_rfl))
  f174 := Tryd.func20.trans (congrArg some (by kernel_rfl))
  f205 := Tryd.func58.trans (congrArg some (by kernel_rfl))
  f243 := Tryd.func66.trans (congrArg some (by kernel_rfl))
  f245 := Tryd.func29.trans (congrArg some (by kernel_rfl))
  f246 := Tryd.func47.trans (congrArg some (by kernel_rfl))
  f247 := Tryd.func28.trans (congrArg some (by kernel_rfl))
  f279 := Tryd.func43.trans (congrArg some (by kernel_rfl))
  f280 := Tryd.func44.trans (congrArg some (by kernel_rfl))
  f281 := Tryd.func45.trans (congrArg some (by kernel_rfl))
  f282 := Tryd.func46.trans (congrArg some (by kernel_rfl))
  f283 := Tryd.func60.trans (congrArg some (by kernel_rfl))
  f284 := Tryd.func61.trans (congrArg some (by kernel_rfl))
  f285 := Tryd.func62.trans (congrArg some (by kernel_rfl))
  f286 := Tryd.func63.trans (congrArg some (by kernel_rfl))
  f287 := Tryd.func42.trans (congrArg some (by kernel_rfl))
  f316 := Tryd.func57.trans (congrArg some (by kernel_rfl))
  f317 := Tryd.func67.trans (congrArg some (by kernel_rfl))
  f318 := Tryd.func69.trans (congrArg some (by kernel_rfl))
  f319 := Tryd.func70.trans (congrArg some (by kernel_rfl))
  f320 := Tryd.func71.trans (congrArg some (by kernel_rfl))
  f321 := Tryd.func55.trans (congrArg some (by kernel_rfl))
  f322 := Tryd.func56.trans (congrArg some (by kernel_rfl))
  f337 := Tryd.func72.trans (congrArg some (by kernel_rfl))
  f338 := Tryd.func73.trans (congrArg some (by kernel_rfl))
  t0 := Tryd.underlying0
  a0 := Tryd.isAgg0
  z0 := Tryd.sizeOf0
  v0 := Tryd.zeroValue0
  t2 := Tryd.underlying2
  a2 := Tryd.isAgg2
  z2 := Tryd.sizeOf2
  v2 := Tryd.zeroValue2
  t3 := Tryd.underlying3
  a3 := Tryd.isAgg3
  z3 := Tryd.sizeOf3
  v3 := Tryd.zeroValue3
  t4 := Tryd.underlying4
  a4 := Tryd.isAgg4
  z4 := Tryd.sizeOf4
  v4 := Tryd.zeroValue4
  t5 := Tryd.underlying5
  a5 := Tryd.isAgg5
  z5 := Tryd.sizeOf5
  v5 := Tryd.zeroValue5
  t9 := Tryd.underlying9
  a9 := Tryd.isAgg9
  z9 := Tryd.sizeOf9
  v9 := Tryd.zeroValue9
  t20 := Tryd.underlying20
  a20 := Tryd.isAgg20
  z20 := Tryd.sizeOf20
  v20 := Tryd.zeroValue20
  t21 := Tryd.underlying21
  a21 := Tryd.isAgg21
  z21 := Tryd.sizeOf21
  v21 := Tryd.zeroValue21
  t37 := Tryd.underlying53
  a37 := Tryd.isAgg53
  z37 := Tryd.sizeOf53
  v37 := Tryd.zeroValue53
  t46 := Tryd.underlying68
  a46 := Tryd.isAgg68
  z46 := Tryd.sizeOf68
  v46 := Tryd.zeroValue68
  t51 := Tryd.underlying78
  a51 := Tryd.isAgg78
  z51 := Tryd.sizeOf78
  v51 := Tryd.zeroValue78
  t53 := Tryd.underlying70
  a53 := Tryd.isAgg70
  z53 := Tryd.sizeOf70
  v53 := Tryd.zeroValue70
  t75 := Tryd.underlying46
  a75 := Tryd.isAgg46
  z75 := Tryd.sizeOf46
  v75 := Tryd.zeroValue46
  t85 := Tryd.underlying47
  a85 := Tryd.isAgg47
  z85 := Tryd.sizeOf47
  v85 := Tryd.zeroValue47
  t127 := Tryd.underlying77
  a127 := Tryd.isAgg77
  z127 := Tryd.sizeOf77
  v127 := Tryd.zeroValue77
  t143 := Tryd.underlying99
  a143 := Tryd.isAgg99
  z143 := Tryd.sizeOf99
  v143 := Tryd.zeroValue99
  t145 := Tryd.underlying101
  a145 := Tryd.isAgg101
  z145 := Tryd.sizeOf101
  v145 := Tryd.zeroValue101
  t167 := Tryd.underlying69
  a167 := Tryd.isAgg69
  z167 := Tryd.sizeOf69
  v167 := Tryd.zeroValue69
  t168 := Tryd.underlying73
  a168 := Tryd.isAgg73
  z168 := Tryd.sizeOf73
  v168 := Tryd.zeroValue73
  t171 := Tryd.underlying87
  a171 := Tryd.isAgg87
  z171 := Tryd.sizeOf87
  v171 := Tryd.zeroValue87
  t173 := Tryd.underlying90
  a173 := Tryd.isAgg90
  z173 := Tryd.sizeOf90
  v173 := Tryd.zeroValue90
  t175 := Tryd.underlying71
  a175 := Tryd.isAgg71
  z175 := Tryd.sizeOf71
  v175 := Tryd.zeroValue71
  t210 := Tryd.underlying84
  a210 := Tryd.isAgg84
  z210 := Tryd.sizeOf84
  v210 := Tryd.zeroValue84
  t212 := Tryd.underlying103
  a212 := Tryd.isAgg103
  z212 := Tryd.sizeOf103
  v212 := Tryd.zeroValue103
  t213 := Tryd.underlying104
  a213 := Tryd.isAgg104
  z213 := Tryd.sizeOf104
  t232 := Tryd.underlying108
  a232 := Tryd.isAgg108
  z232 := Tryd.sizeOf108
  v232 := Tryd.zeroValue108
  t233 := Tryd.underlying109
  a233 := Tryd.isAgg109
  z233 := Tryd.sizeOf109
  v233 := Tryd.zeroValue109
  g15 := by kernel_rfl
  g16 := by kernel_rfl
  g17 := by kernel_rfl
  g18 := by kernel_rfl
  g19 := by kernel_rfl
  t80 := Tryd.underlying38
  a80 := Tryd.isAgg38
  z80 := Tryd.sizeOf38
  v80 := Tryd.zeroValue38
  i0 := by kernel_rfl
  i2 := by kernel_rfl
  i3 := by kernel_rfl
  i4 := by kernel_rfl
  i5 := by kernel_rfl
  i9 := by kernel_rfl
  i20 := by kernel_rfl
  i21 := by kernel_rfl
  i37 := by kernel_rfl
  i46 := by kernel_rfl
  i51 := by kernel_rfl
  i53 := by kernel_rfl
  i75 := by kernel_rfl
  i80 := by kernel_rfl
  i85 := by kernel_rfl
  i127 := by kernel_rfl
  i143 := by kernel_rfl
  i145 := by kernel_rfl
  i167 := by kernel_rfl
  i168 := by kernel_rfl
  i171 := by kernel_rfl
  i173 := by kernel_rfl
  i175 := by kernel_rfl
  i210 := by kernel_rfl
  i212 := by kernel_rfl
  i232 := by kernel_rfl
  i233 := by kernel_rfl
  m15 := by kernel_rfl
  m16 := by kernel_rfl
  m17 := by kernel_rfl
  m18 := by kernel_rfl
  m19 := by kernel_rfl
  c0 := by kernel_rfl
  c2 := by kernel_rfl
  c3 := by kernel_rfl
  c4 := by kernel_rfl
  c5 := by kernel_rfl
  c9 := by kernel_rfl
  c20 := by kernel_rfl
  c21 := by kernel_rfl
  c37 := by kernel_rfl
  c46 := by kernel_rfl
  c51 := by kernel_rfl
  c53 := by kernel_rfl
  c75 := by kernel_rfl
  c80 := by kernel_rfl
  c85 := by kernel_rfl
  c127 := by kernel_rfl
  c143 := by kernel_rfl
  c145 := by kernel_rfl
  c167 := by kernel_rfl
  c168 := by kernel_rfl
  c171 := by kernel_rfl
  c173 := by kernel_rfl
  c175 := by kernel_rfl
  c210 := by kernel_rfl
  c212 := by kernel_rfl
  c213 := by kernel_rfl
  c232 := by kernel_rfl
  c233 := by kernel_rfl }
open Go.RowKit in
/-- strconv.ParseInt(s, 10, 64), AT EVERY STRING THAT SPELLS AN int64 ('Lib.parseIntB 64 s.data.toList = .ok v'): v, AND NO ERROR. (LAID: no walk: one application.) -/
theorem Tryd.strconv_ParseInt_10_at64_ok (s : ByteArray) (hmax : s.size ≤ 9223372036854775806) (v : Int) (h : Lib.parseIntB 64 s.data.toList = .ok v) (w : World) :
    Calls Tryd.prog 20 #[.string s, .int .i64 10, .int .i64 64] w fun e w' => e = .returned (.tuple #[.int .i64 v, .nilIface]) ∧ (w' = w ∨ ∃ t, w' = Lib.bytesWorld w 5 t) := Any.strconv_ParseInt_10_at64_ok Tryd.laysC174 s hmax v h w
open Go.RowKit in
/-- strconv.ParseInt(s, 10, 64), AT EVERY STRING THAT IS NO DECIMAL NUMERAL: 0, AND AN ERROR THAT IS NOT nil: a *NumError in a new block N: {Func: "ParseInt", Num: s's bytes, Err: what the variable ErrSyntax holds}. Of what was there nothing has turned. (LAID: no walk: one application.) -/
theorem Tryd.strconv_ParseInt_10_at64_syntax (s : ByteArray) (hlim : s.size ≤ 281474976710656) (h : Lib.parseIntB 64 s.data.toList = Lib.parseIntB 64 []) (ev : Value) (w : World) (hv : w.cell? ⟨1, 0, none⟩ = some ev) (hev : ev = .nilIface ∨ ∃ te pe, ev = .iface te pe) :
    Calls Tryd.prog 20 #[.string s, .int .i64 10, .int .i64 64] w fun e w' => ∃ N, e = .returned (.tuple #[.int .i64 (0), .iface 73 (.pointer (some ⟨N, 0, none⟩))]) ∧ w.heap.size ≤ N ∧ w'.heap[N]? = some (.cells #[.string ⟨#[80, 97, 114, 115, 101, 73, 110, 116]⟩, .string s, ev] 84 (0, 0)) ∧ Below w.heap.size w w' := Any.strconv_ParseInt_10_at64_syntax Tryd.laysC174 s hlim h ev w hv hev
open Go.RowKit in
/-- strconv.ParseInt(s, 10, 64), AT EVERY NUMERAL THAT NO int64 HOLDS: THE GREATEST OR THE LEAST int64, BY THE SIGN ('Lib.intSat 64'), AND AN ERROR THAT IS NOT nil: a *NumError in a new block N: {Func: "ParseInt", Num: s's bytes, Err: what the variable ErrRange holds}. Of what was there nothing has turned. (LAID: no walk: one application.) -/
theorem Tryd.strconv_ParseInt_10_at64_range (s : ByteArray) (hlim : s.size ≤ 281474976710656) (h : Lib.parseIntB 64 s.data.toList = .range) (ev : Value) (w : World) (hv : w.cell? ⟨2, 0, none⟩ = some ev) (hev : ev = .nilIface ∨ ∃ te pe, ev = .iface te pe) :
    Calls Tryd.prog 20 #[.string s, .int .i64 10, .int .i64 64] w fun e w' => ∃ N, e = .returned (.tuple #[.int .i64 (Lib.intSat 64 s.data.toList), .iface 73 (.pointer (some ⟨N, 0, none⟩))]) ∧ w.heap.size ≤ N ∧ w'.heap[N]? = some (.cells #[.string ⟨#[80, 97, 114, 115, 101, 73, 110, 116]⟩, .string s, ev] 84 (0, 0)) ∧ Below w.heap.size w w' := Any.strconv_ParseInt_10_at64_range Tryd.laysC174 s hlim h ev w hv hev
def Tryd.lays145_ren : Go.Shelf.Ren := ⟨fun | 145 => 8 | 220 => 19 | 219 => 27 | 217 => 38 | 225 => 39 | 224 => 40 | 267 => 41 | 266 => 53 | 314 => 54 | n => n, fun | 9 => 9 | 4 => 4 | 59 => 31 | 3 => 3 | 5 => 5 | 46 => 68 | 146 => 79 | 51 => 78 | n => n, fun | 1 => 0 | n => n⟩
theorem Tryd.lays145 : Go.Proofs.Lays.n145 Tryd.prog Tryd.lays145_ren := {
  mixed := by kernel_rfl
  f145 := Tryd.func8.trans (congrArg some (by kernel_rfl))
  f217 := Tryd.func38.trans (congrArg some (by kernel_rfl))
  f219 := Tryd.func27.trans (congrArg some (by kernel_rfl))
  f220 := Tryd.func19.trans (congrArg some (by kernel_rfl))
  f224 := Tryd.func40.trans (congrArg some (by kernel_rfl))
  f225 := Tryd.func39.trans (congrArg some (by kernel_rfl))
  f266 := Tryd.func53.trans (congrArg some (by kernel_rfl))
  f267 := Tryd.func41.trans (congrArg some (by kernel_rfl))
  f314 := Tryd.func54.trans (congrArg some (by kernel_rfl))
  t3 := Tryd.underlying3
  a3 := Tryd.isAgg3
  z3 := Tryd.sizeOf3
  v3 := Tryd.zeroValue3
  t4 := Tryd.underlying4
  a4 := Tryd.isAgg4
  z4 := Tryd.sizeOf4
  v4 := Tryd.zeroValue4
  t5 := Tryd.underlying5
  a5 := Tryd.isAgg5
  z5 := Tryd.sizeOf5
  v5 := Tryd.zeroValue5
  t9 := Tryd.underlying9
  a9 := Tryd.isAgg9
  z9 := Tryd.sizeOf9
  v9 := Tryd.zeroValue9
  t46 := Tryd.underlying68
  a46 := Tryd.isAgg68
  z46 := Tryd.sizeOf68
  v46 := Tryd.zeroValue68
  t51 := Tryd.underlying78
  a51 := Tryd.isAgg78
  z51 := Tryd.sizeOf78
  v51 := Tryd.zeroValue78
  t59 := Tryd.underlying31
  a59 := Tryd.isAgg31
  z59 := Tryd.sizeOf31
  v59 := Tryd.zeroValue31
  t146 := Tryd.underlying79
  a146 := Tryd.isAgg79
  z146 := Tryd.sizeOf79
  v146 := Tryd.zeroValue79
  g1 := by kernel_rfl }
open Go.RowKit Go.Lib in
/-- strings.Cut: "Cut slices s around the first instance of sep, returning the text before and after sep. The found result reports whether sep appears in s. If sep does not appear in s, cut returns s, "", false.": IT RETURNS 'Lib.cut s sep'; the world is as it was but for the count of draws. (LAID: no walk: one application.) -/
theorem Tryd.strings_Cut (s sep : ByteArray) (m : Int) (w : World) (hs : s.size < 4294967281) (hm : w.cell? ⟨0, 0, none⟩ = some (.int .i64 m)) :
    Calls Tryd.prog 8 #[.string s, .string sep] w fun e w' => e = .returned (.tuple #[.string ⟨(Lib.cut s.data.toList sep.data.toList).1.toArray⟩, .string ⟨(Lib.cut s.data.toList sep.data.toList).2.1.toArray⟩, .bool (Lib.cut s.data.toList sep.data.toList).2.2]) ∧ ∃ n, w' = w.drewN n := Any.strings_Cut Tryd.lays145 s sep m w hs hm
def Tryd.laysM145_ren : Go.Shelf.Ren := ⟨fun | 145 => 8 | 220 => 19 | 219 => 27 | 217 => 38 | 225 => 39 | 224 => 40 | 267 => 41 | 266 => 53 | 314 => 54 | n => n, fun | 9 => 9 | 4 => 4 | 59 => 31 | 3 => 3 | 5 => 5 | 46 => 68 | 146 => 79 | 51 => 78 | n => n, fun | 1 => 0 | n => n⟩
theorem Tryd.laysM145 : Go.Proofs.LaysM.n145 Tryd.prog Tryd.laysM145_ren := {
  mixed := by kernel_rfl
  f145 := Tryd.func8.trans (congrArg some (by kernel_rfl))
  f217 := Tryd.func38.trans (congrArg some (by kernel_rfl))
  f219 := Tryd.func27.trans (congrArg some (by kernel_rfl))
  f220 := Tryd.func19.trans (congrArg some (by kernel_rfl))
  f224 := Tryd.func40.trans (congrArg some (by kernel_rfl))
  f225 := Tryd.func39.trans (congrArg some (by kernel_rfl))
  f266 := Tryd.func53.trans (congrArg some (by kernel_rfl))
  f267 := Tryd.func41.trans (congrArg some (by kernel_rfl))
  f314 := Tryd.func54.trans (congrArg some (by kernel_rfl))
  t3 := Tryd.underlying3
  a3 := Tryd.isAgg3
  z3 := Tryd.sizeOf3
  v3 := Tryd.zeroValue3
  t4 := Tryd.underlying4
  a4 := Tryd.isAgg4
  z4 := Tryd.sizeOf4
  v4 := Tryd.zeroValue4
  t5 := Tryd.underlying5
  a5 := Tryd.isAgg5
  z5 := Tryd.sizeOf5
  v5 := Tryd.zeroValue5
  t9 := Tryd.underlying9
  a9 := Tryd.isAgg9
  z9 := Tryd.sizeOf9
  v9 := Tryd.zeroValue9
  t46 := Tryd.underlying68
  a46 := Tryd.isAgg68
  z46 := Tryd.sizeOf68
  v46 := Tryd.zeroValue68
  t51 := Tryd.underlying78
  a51 := Tryd.isAgg78
  z51 := Tryd.sizeOf78
  v51 := Tryd.zeroValue78
  t59 := Tryd.underlying31
  a59 := Tryd.isAgg31
  z59 := Tryd.sizeOf31
  v59 := Tryd.zeroValue31
  t146 := Tryd.underlying79
  a146 := Tryd.isAgg79
  z146 := Tryd.sizeOf79
  v146 := Tryd.zeroValue79
  g1 := by kernel_rfl
  i3 := by kernel_rfl
  i4 := by kernel_rfl
  i5 := by kernel_rfl
  i9 := by kernel_rfl
  i46 := by kernel_rfl
  i51 := by kernel_rfl
  i59 := by kernel_rfl
  i146 := by kernel_rfl
  m1 := by kernel_rfl
  s1_3 := fun w h => Go.Proofs.cell_of_shapedOpen_int (zero := #[.int .i64 0]) (t := 3) h (of_decide_eq_true (by kernel_rfl)) (by kernel_rfl) rfl (by kernel_rfl) (by kernel_rfl) Tryd.underlying3 }
def Tryd.lays155_ren : Go.Shelf.Ren := ⟨fun | 155 => 10 | 154 => 22 | 138 => 31 | 165 => 32 | 143 => 33 | 166 => 34 | 197 => 35 | 169 => 36 | 195 => 48 | 218 => 49 | 240 => 50 | 241 => 51 | 219 => 27 | 260 => 52 | 276 => 64 | 277 => 65 | 217 => 38 | 225 => 39 | 224 => 40 | 267 => 41 | 266 => 53 | 314 => 54 | n => n, fun | 9 => 9 | 3 => 3 | 4 => 4 | 72 => 60 | 0 => 0 | 76 => 62 | 105 => 64 | 21 => 21 | 5 => 5 | 70 => 58 | 20 => 20 | 37 => 53 | 75 => 46 | 127 => 77 | 164 => 92 | 46 => 68 | 119 => 95 | 139 => 98 | 138 => 97 | 146 => 79 | 51 => 78 | 80 => 38 | n => n, fun | 1 => 0 | 3 => 3 | 4 => 4 | n => n⟩
theorem Tryd.lays155 : Go.Proofs.Lays.n155 Tryd.prog Tryd.lays155_ren := {
  mixed := by kernel_rfl
  f138 := Tryd.func31.trans (congrArg some (by kernel_rfl))
  f143 := Tryd.func33.trans (congrArg some (by kernel_rfl))
  f154 := Tryd.func22.trans (congrArg some (by kernel_rfl))
  f155 := Tryd.func10.trans (congrArg some (by kernel_rfl))
  f165 := Tryd.func32.trans (congrArg some (by kernel_rfl))
  f166 := Tryd.func34.trans (congrArg some (by kernel_rfl))
  f169 := Tryd.func36.trans (congrArg some (by kernel_rfl))
  f195 := Tryd.func48.trans (congrArg some (by kernel_rfl))
  f197 := Tryd.func35.trans (congrArg some (by kernel_rfl))
  f217 := Tryd.func38.trans (congrArg some (by kernel_rfl))
  f218 := Tryd.func49.trans (congrArg some (by kernel_rfl))
  f219 := Tryd.func27.trans (congrArg some (by kernel_rfl))
  f224 := Tryd.func40.trans (congrArg some (by kernel_rfl))
  f225 := Tryd.func39.trans (congrArg some (by kernel_rfl))
  f240 := Tryd.func50.trans (congrArg some (by kernel_rfl))
  f241 := Tryd.func51.trans (congrArg some (by kernel_rfl))
  f260 := Tryd.func52.trans (congrArg some (by kernel_rfl))
  f266 := Tryd.func53.trans (congrArg some (by kernel_rfl))
  f267 := Tryd.func41.trans (congrArg some (by kernel_rfl))
  f276 := Tryd.func64.trans (congrArg some (by kernel_rfl))
  f277 := Tryd.func65.trans (congrArg some (by kernel_rfl))
  f314 := Tryd.func54.trans (congrArg some (by kernel_rfl))
  t0 := Tryd.underlying0
  a0 := Tryd.isAgg0
  z0 := Tryd.sizeOf0
  v0 := Tryd.zeroValue0
  t3 := Tryd.underlying3
  a3 := Tryd.isAgg3
  z3 := Tryd.sizeOf3
  v3 := Tryd.zeroValue3
  t4 := Tryd.underlying4
  a4 := Tryd.isAgg4
  z4 := Tryd.sizeOf4
  v4 := Tryd.zeroValue4
  t5 := Tryd.underlying5
  a5 := Tryd.isAgg5
  z5 := Tryd.sizeOf5
  v5 := Tryd.zeroValue5
  t9 := Tryd.underlying9
  a9 := Tryd.isAgg9
  z9 := Tryd.sizeOf9
  v9 := Tryd.zeroValue9
  t20 := Tryd.underlying20
  a20 := Tryd.isAgg20
  z20 := Tryd.sizeOf20
  v20 := Tryd.zeroValue20
  t21 := Tryd.underlying21
  a21 := Tryd.isAgg21
  z21 := Tryd.sizeOf21
  v21 := Tryd.zeroValue21
  t37 := Tryd.underlying53
  a37 := Tryd.isAgg53
  z37 := Tryd.sizeOf53
  v37 := Tryd.zeroValue53
  t46 := Tryd.underlying68
  a46 := Tryd.isAgg68
  z46 := Tryd.sizeOf68
  v46 := Tryd.zeroValue68
  t51 := Tryd.underlying78
  a51 := Tryd.isAgg78
  z51 := Tryd.sizeOf78
  v51 := Tryd.zeroValue78
  t70 := Tryd.underlying58
  a70 := Tryd.isAgg58
  z70 := Tryd.sizeOf58
  v70 := Tryd.zeroValue58
  t72 := Tryd.underlying60
  a72 := Tryd.isAgg60
  z72 := Tryd.sizeOf60
  v72 := Tryd.zeroValue60
  t75 := Tryd.underlying46
  a75 := Tryd.isAgg46
  z75 := Tryd.sizeOf46
  v75 := Tryd.zeroValue46
  t76 := Tryd.underlying62
  a76 := Tryd.isAgg62
  z76 := Tryd.sizeOf62
  v76 := Tryd.zeroValue62
  t105 := Tryd.underlying64
  a105 := Tryd.isAgg64
  z105 := Tryd.sizeOf64
  v105 := Tryd.zeroValue64
  t119 := Tryd.underlying95
  a119 := Tryd.isAgg95
  z119 := Tryd.sizeOf95
  t127 := Tryd.underlying77
  a127 := Tryd.isAgg77
  z127 := Tryd.sizeOf77
  v127 := Tryd.zeroValue77
  t138 := Tryd.underlying97
  a138 := Tryd.isAgg97
  z138 := Tryd.sizeOf97
  v138 := Tryd.zeroValue97
  t139 := Tryd.underlying98
  a139 := Tryd.isAgg98
  z139 := Tryd.sizeOf98
  v139 := Tryd.zeroValue98
  t146 := Tryd.underlying79
  a146 := Tryd.isAgg79
  z146 := Tryd.sizeOf79
  v146 := Tryd.zeroValue79
  t164 := Tryd.underlying92
  a164 := Tryd.isAgg92
  z164 := Tryd.sizeOf92
  v164 := Tryd.zeroValue92
  g1 := by kernel_rfl
  g3 := by kernel_rfl
  g4 := by kernel_rfl }
theorem Tryd.Builder_Extra_155 : Builder.Extra Tryd.prog Tryd.lays155_ren := {
  sizeBuilder := by kernel_rfl
  liesBuilder := by kernel_rfl
  t5 := Tryd.underlying5
  a5 := Tryd.isAgg5
  z5 := Tryd.sizeOf5
  v5 := Tryd.zeroValue5
  infoByte := by kernel_rfl
  cellsByte := by kernel_rfl
  sizeByte := by kernel_rfl
  neB5 := by decide }
open Go.RowKit Go.Lib in
/-- strings.ReplaceAll: "ReplaceAll returns a copy of the string s with all non-overlapping instances of old replaced by new.": AT AN old THAT IS NOT EMPTY: 'Lib.replaceAll s old new'. (LAID: no walk: one application.) -/
theorem Tryd.strings_ReplaceAll (s old new : ByteArray) (m : Int) (w : World) (hs : s.size < 4294967281) (hm : w.cell? ⟨0, 0, none⟩ = some (.int .i64 m)) (h1 : 1 ≤ old.size) (hlen : s.size + Lib.countB s old * new.size ≤ 140737488355328) :
    Calls Tryd.prog 10 #[.string s, .string old, .string new] w fun e w' =>
      e = .returned (.string ⟨(Lib.replaceAll s.data.toList old.data.toList new.data.toList).toArray⟩) ∧ Below w.heap.size w w' := Any.strings_ReplaceAll Tryd.lays155 Tryd.Builder_Extra_155 s old new m w hs hm h1 hlen
end Go.Proofs

/- Memory rules for texts: strings, slices of strings and of bytes, the library's functions. No condition. -/
namespace Go.Proofs.YtmecbbanklffgaaDoor
open Go Go.RowKit Eng Mem
set_option linter.unusedVariables false
set_option maxRecDepth 100000
abbrev bs (l : BL) : ByteArray := ⟨l.toArray⟩
theorem bs_data (s : ByteArray) : bs s.data.toList = s := by cases s; rfl
theorem bs_size (l : BL) : (bs l).size = l.length := by simp [ByteArray.size]
theorem lenT {l : BL} {t : TypeId} {K : Int → Prop} (hK : K (l.length : Int)) : QAll Tryd.prog (Builtin.len_ #[tS] t #[.string (bs l)]) (.int .i64) K :=
  ⟨_, fun w => by rw [run_len_string w tS t (bs l) Tryd.underlying9, bs_size]; rfl, hK⟩
theorem ixT {l : BL} {k : IntKind} {i : Int} {K : Int → Prop} (h0 : 0 ≤ i) (h1 : i < l.length) (hK : ∀ x : UInt8, l[i.toNat]? = some x → K (x.toNat : Int)) : QAll Tryd.prog (Instr.index tS (.string (bs l)) (.int k i)) (.int .u8) K := by
  have hi : i.toNat < l.length := by omega
  refine ⟨(l[i.toNat].toNat : Int), fun w => ?_, hK _ (List.getElem?_eq_getElem hi)⟩
  rw [run_index_string w tS (bs l) k i Tryd.underlying9, dif_pos ⟨h0, by rw [bs_size]; omega⟩]
  rfl
theorem slT {l : BL} {k k' : IntKind} {a b : Int} {K : ByteArray → Prop} (h0 : 0 ≤ a) (h1 : a ≤ b) (h2 : b ≤ l.length) (hK : K (bs ((l.drop a.toNat).take (b.toNat - a.toNat)))) :
    QAll Tryd.prog (Instr.sliceAt tS (.string (bs l)) (some (.int k a)) (some (.int k' b)) none) .str K :=
  ⟨_, fun w => by rw [run_sliceAt_string w tS _ _ _ _ Tryd.underlying9, run_slice_string w tS (bs l) k k' a b Tryd.underlying9 h0 h1 (by rw [bs_size]; exact h2), ByteArray.extract_mk], hK⟩
theorem slF {l : BL} {k : IntKind} {a : Int} {K : ByteArray → Prop} (h0 : 0 ≤ a) (h2 : a ≤ l.length) (hK : K (bs (l.drop a.toNat))) :
    QAll Tryd.prog (Instr.sliceAt tS (.string (bs l)) (some (.int k a)) none none) .str K :=
  ⟨_, fun w => by
    rw [run_sliceAt_string w tS _ _ _ _ Tryd.underlying9, run_slice_string_from_if w tS (bs l) k a Tryd.underlying9, if_pos ⟨h0, by rw [bs_size]; exact h2⟩, ByteArray.extract_mk, bs_size, List.take_of_length_le (by simp)], hK⟩
theorem addT {ox oy : Operand} {a b : BL} {K : ByteArray → Prop} (ha : a.length ≤ 8388608) (hb : b.length ≤ 8388608) (hK : K (bs (a ++ b))) :
    QAll Tryd.prog (do eqGuard .add tS ox oy (.string (bs a)) (.string (bs b)); binOp .add tS (.string (bs a)) (.string (bs b))) .str K :=
  ⟨_, fun w => by
    rw [Sem.run_bind, show (eqGuard .add tS ox oy (.string (bs a)) (.string (bs b))).run Tryd.prog w = .ok () w from rfl, binOp_string_add]
    exact run_string_add_lists w a b (by omega) (by omega), hK⟩
theorem eqT {ox oy : Operand} {a b : BL} {K : Bool → Prop} (hK : K (decide (a = b))) : QAll Tryd.prog (do eqGuard .eql tS ox oy (.string (bs a)) (.string (bs b)); binOp .eql tS (.string (bs a)) (.string (bs b))) .bool K :=
  ⟨_, fun w => by
    rw [Sem.run_bind, show (eqGuard .eql tS ox oy (.string (bs a)) (.string (bs b))).run Tryd.prog w = .ok () w from rfl, binOp_string_eql, ByteArray.toList_mk, ByteArray.toList_mk]
    have : (a == b) = decide (a = b) := by by_cases h : a = b <;> simp [h]
    rw [this]; rfl, hK⟩
theorem neT {ox oy : Operand} {a b : BL} {K : Bool → Prop} (hK : K (!decide (a = b))) : QAll Tryd.prog (do eqGuard .neq tS ox oy (.string (bs a)) (.string (bs b)); binOp .neq tS (.string (bs a)) (.string (bs b))) .bool K :=
  ⟨_, fun w => by
    rw [Sem.run_bind, show (eqGuard .neq tS ox oy (.string (bs a)) (.string (bs b))).run Tryd.prog w = .ok () w from rfl, binOp_string_neq, ByteArray.toList_mk, ByteArray.toList_mk]
    have : (a == b) = decide (a = b) := by by_cases h : a = b <;> simp [h]
    rw [this]; rfl, hK⟩
/-! ### Slices of strings -/
abbrev sv (l : List BL) : List Value := l.map fun s => Value.string (bs s)
abbrev SlT (w : World) (v : Value) (l : List BL) : Prop := Sl w v 1 (sv l)
abbrev OwnT (w : World) (b : Nat) (v : Value) (l : List BL) : Prop := Own w b tS 1 v l.length (sv l)
theorem lenTs {w : World} {v : Value} {l : List BL} {t : TypeId} {K : Int → Prop} (h : SlT w v l) (hK : K (l.length : Int)) : QAll Tryd.prog (Builtin.len_ #[tSS] t #[v]) (.int .i64) K :=
  len ySS h (by simpa using hK)
theorem atTs {w : World} {v : Value} {l : List BL} {k : IntKind} {i : Int} {K : ByteArray → Prop} (h : SlT w v l) (h0 : 0 ≤ i) (h1 : i < l.length) (hK : ∀ s, l[i.toNat]? = some s → K (bs s)) :
    QAll Tryd.prog (Instr.indexAt tSS v (.int k i)) .any fun p => QSub Tryd.prog (Instr.loadAt tS p) w .str K := by
  have hi : i.toNat < l.length := by omega
  exact ixS ySS h h0 (by simp; omega) fun p hp => ld (k := .str) (x := bs l[i.toNat]) y1S (hp [_] fun j hj => by
    have : j = 0 := by simp at hj; exact hj
    subst this
    simp [hi]) (hK _ (List.getElem?_eq_getElem hi))
theorem sv_one (l : List BL) : ∀ u ∈ sv l, u.oneCell' = true := fun u hu => by obtain ⟨_, _, rfl⟩ := List.mem_map.1 hu; rfl
theorem nilT {w : World} {K : Value → World → Prop} (hK : ∀ b v w', w.heap.size = b → Below w.heap.size w w' → OwnT w' b v [] → K v w') : Pr Tryd.prog (Instr.buildSlice tSS 0 #[]) w (.one .any) K :=
  mk0 ySS fun b w' hn ho => hK b _ w' hn.here.symm hn.below ho
theorem appT {w : World} {b : Nat} {v : Value} {l : List BL} {x : BL} {t : TypeId} {K : Value → World → Prop} (h : OwnT w b v l) (hl : l.length ≤ 1099511627776)
    (hK : ∀ v' w' b', OwnT w' b' v' (l ++ [x]) → Mod [b] w w' → (b' = b ∨ w.heap.size ≤ b') → K v' w') :
    Pr Tryd.prog (Instr.buildSlice tSS 1 #[(0, .string (bs x))]) w (.one .any) fun y w1 => Pr Tryd.prog (Builtin.append_ #[tSS, tSS] t #[v, y]) w1 (.one .any) K := by
  refine mk1 ySS rfl fun b1 w1 hn ho => ?_
  have h1 : OwnT w1 b v l := h.keep hn.below
  have hs : SlT w1 (.slice (some ⟨b1, 0, none⟩) 1 1) [x] := ho.sl
  have e1 := hn.here; have s1 := hn.size; have lt := h.lt
  refine app ySS 1 h1 hs (by simp) (sv_one _) (by omega) fun v' w' b' o m hb => hK v' w' b' ?_ ((hn.mod.mono (by simp)).trans m) (by omega)
  unfold OwnT
  rw [List.length_append, sv, List.map_append]
  exact o
/-! ### Slices of bytes -/
abbrev uv (l : BL) : List Value := l.map fun x => Value.int .u8 (x.toNat : Int)
abbrev OwnU (w : World) (b : Nat) (v : Value) (l : BL) : Prop := Own w b tB 1 v l.length (uv l)
theorem uv_one (l : BL) : ∀ u ∈ uv l, u.oneCell' = true := fun u hu => by obtain ⟨_, _, rfl⟩ := List.mem_map.1 hu; rfl
theorem nilU {w : World} {K : Value → World → Prop} (hK : ∀ b v w', w.heap.size = b → Below w.heap.size w w' → OwnU w' b v [] → K v w') : Pr Tryd.prog (Instr.buildSlice tSB 0 #[]) w (.one .any) K :=
  mk0 ySB fun b w' hn ho => hK b _ w' hn.here.symm hn.below ho
theorem appU {w : World} {b : Nat} {v : Value} {l : BL} {x : UInt8} {n : Int} {t : TypeId} {K : Value → World → Prop} (hx : n = (x.toNat : Int)) (h : OwnU w b v l) (hl : l.length ≤ 1099511627776)
    (hK : ∀ v' w' b', OwnU w' b' v' (l ++ [x]) → Mod [b] w w' → (b' = b ∨ w.heap.size ≤ b') → K v' w') :
    Pr Tryd.prog (Instr.buildSlice tSB 1 #[(0, .int .u8 n)]) w (.one .any) fun y w1 => Pr Tryd.prog (Builtin.append_ #[tSB, tSB] t #[v, y]) w1 (.one .any) K := by
  subst hx
  refine mk1 ySB rfl fun b1 w1 hn ho => ?_
  have h1 : OwnU w1 b v l := h.keep hn.below
  have hs : Sl w1 (.slice (some ⟨b1, 0, none⟩) 1 1) 1 (uv [x]) := ho.sl
  have e1 := hn.here; have s1 := hn.size; have lt := h.lt
  refine app ySB 1 h1 hs (by simp) (uv_one _) (by omega) fun v' w' b' o m hb => hK v' w' b' ?_ ((hn.mod.mono (by simp)).trans m) (by omega)
  unfold OwnU
  rw [List.length_append, uv, List.map_append]
  exact o
/-- A string of the bytes of an own slice. -/
theorem cvU {w : World} {b : Nat} {v : Value} {l : BL} {K : ByteArray → World → Prop} (h : OwnU w b v l) (hK : K (bs l) w) : Pr Tryd.prog (convert tSB tS v) w (.one .str) K := by
  obtain ⟨cap, l', rfl, hb, hc, hm, hl, ht, hx⟩ := id h
  refine ⟨bs l, w, ?_, hK⟩
  refine run_convert_bytes_back w tSB tS tB ⟨b, 0, none⟩ cap l Tryd.underlying53 Tryd.underlying5 Tryd.underlying9 fun j hj => ?_
  obtain ⟨b', off', cs, e, fz, hp, ha, hr⟩ := h.row
  injection hp with hp; injection hp with hp; injection hp with h1 h2 _
  subst h1; subst h2
  have := hr j (by simpa using hj)
  rw [add_none]
  simp only [World.cell?, ha]
  simp only [Nat.zero_add] at this ⊢
  simp [this, hj]
/-! ### The library -/
theorem fc_of {f : FuncId} {args : Array Value} {w : World} {t : RT} {K : t.T → World → Prop} {R : Ending → World → Prop} {fn : Func} {c : Code} (hf : Tryd.prog.funcs[f]? = some fn) (hname : (fn.name == "runtime.NumGoroutine") = false) (hb : fn.body = some c)
    (h : Calls Tryd.prog f args w R) (hR : ∀ e w', R e w' → ∃ x, e = .returned (t.val x) ∧ K x w') : Fc Tryd.prog f args w t K := by
  refine ⟨fun args w => ?_, h.mono hR⟩
  have h1 : fn.name ≠ "runtime.NumGoroutine" := by simpa using hname
  simp [callFunc, hf, h1, hb]
/-- What the library's own variables hold. -/
structure Gl (w : World) : Prop where
  m : ∃ m, w.cell? ⟨0, 0, none⟩ = some (.int .i64 m)
  s : ∃ te pe, w.cell? ⟨1, 0, none⟩ = some (.iface te pe)
  r : ∃ te pe, w.cell? ⟨2, 0, none⟩ = some (.iface te pe)
  tab : Lib.TabIs Tryd.prog w "internal/strconv.uint64pow10" .u64 Lib.pow10Tab
theorem cell_lt {w : World} {a : Addr} {v : Value} (h : w.cell? a = some v) : a.block < w.heap.size := by
  unfold World.cell? at h
  split at h
  · exact at_lt (by assumption)
  · cases h
theorem cell_keep {w w' : World} {a : Addr} {v : Value} (h : w.cell? a = some v) (q : Below w.heap.size w w') : w'.cell? a = some v := by
  have hl := cell_lt h
  unfold World.cell? at h ⊢
  rw [q.block _ hl]
  exact h
theorem gPow : Tryd.prog.globalNamed "internal/strconv.uint64pow10" = some 5 := by kernel_rfl
theorem Gl.keep {w w' : World} (h : Gl w) (q : Below w.heap.size w w') : Gl w' := by
  obtain ⟨⟨m, hm⟩, ⟨t1, p1, h1⟩, ⟨t2, p2, h2⟩, tab⟩ := h
  exact ⟨⟨m, cell_keep hm q⟩, ⟨t1, p1, cell_keep h1 q⟩, ⟨t2, p2, cell_keep h2 q⟩, Joins.tab_stays gPow tab q (Nat.le_refl _)⟩
theorem c_Cut {s sep : BL} {w : World} {K : ByteArray × ByteArray × Bool → World → Prop} (g : Gl w) (hs : s.length < 4294967281)
    (hK : ∀ w', Below w.heap.size w w' → K (bs (Lib.cut s sep).1, bs (Lib.cut s sep).2.1, (Lib.cut s sep).2.2) w') : Fc Tryd.prog F_strings_Cut #[.string (bs s), .string (bs sep)] w (.three .str .str .bool) K := by
  obtain ⟨m, hm⟩ := g.m
  refine fc_of Tryd.func8 (by kernel_rfl) rfl (Tryd.strings_Cut (bs s) (bs sep) m w (by rw [bs_size]; exact hs) hm) ?_
  rintro e w' ⟨rfl, n, rfl⟩
  exact ⟨(_, _, _), rfl, hK _ ⟨rfl, rfl, rfl, Nat.le_refl _, fun _ _ => rfl⟩⟩
theorem c_ReplaceAll {s old new : BL} {w : World} {K : ByteArray → World → Prop} (g : Gl w) (hs : s.length < 4294967281) (ho : 1 ≤ old.length) (hn : s.length + Lib.countB (bs s) (bs old) * new.length ≤ 140737488355328)
    (hK : ∀ w', Below w.heap.size w w' → K (bs (Lib.replaceAll s old new)) w') : Fc Tryd.prog F_strings_ReplaceAll #[.string (bs s), .string (bs old), .string (bs new)] w (.one .str) K := by
  obtain ⟨m, hm⟩ := g.m
  refine fc_of Tryd.func10 (by kernel_rfl) rfl (Tryd.strings_ReplaceAll (bs s) (bs old) (bs new) m w (by rw [bs_size]; exact hs) hm (by rw [bs_size]; exact ho) (by rw [bs_size, bs_size]; exact hn)) ?_
  rintro e w' ⟨rfl, hb⟩
  exact ⟨_, rfl, hK _ hb⟩
theorem c_FormatInt {n : Int} {w : World} {K : ByteArray → World → Prop} (g : Gl w) (hn : I64 n) (hK : ∀ w', Below w.heap.size w w' → K (bs (Lib.itoa n)) w') : Fc Tryd.prog F_strconv_FormatInt #[.int .i64 n, .int .i64 10] w (.one .str) K := by
  refine fc_of Tryd.func30 (by kernel_rfl) rfl (Tryd.strconv_FormatInt_10 n hn.1 hn.2 w g.tab) ?_
  rintro e w' ⟨rfl, k, os, rfl⟩
  exact ⟨_, rfl, hK _ (Lib.below_grow _ w (Nat.le_refl _) k os)⟩
theorem c_Join {l : List BL} {sep : BL} {v : Value} {w : World} {b : Nat} {K : ByteArray → World → Prop} (h : OwnT w b v l) (hN : l.length ≤ 1000) (hl : (Lib.join l sep).length ≤ 140737488355328) (hK : ∀ w', Below w.heap.size w w' → K (bs (Lib.join l sep)) w') :
    Fc Tryd.prog F_strings_Join #[v, .string (bs sep)] w (.one .str) K := by
  obtain ⟨cap, l', rfl, hb, hc, hm, hll, ht, hx⟩ := id h
  have hlen : (l.map bs).length = l.length := by simp
  have hmm : (l.map bs).map (·.data.toList) = l := by rw [List.map_map]; exact List.map_id'' (fun _ => rfl) l
  have hcell : ∀ (j : Nat) x, (l.map bs)[j]? = some x → w.cell? ⟨b, 0 + j, none⟩ = some (.string x) := by
    intro j x hj
    obtain ⟨b', off', cs, e, fz, hp, ha, hr⟩ := h.row
    injection hp with hp; injection hp with hp; injection hp with h1 h2 _
    subst h1; subst h2
    have hjl : j < l.length := by
      have := (List.getElem?_eq_some_iff.1 hj).1
      simpa using this
    have := hr j (by simpa using hjl)
    simp only [World.cell?, ha]
    simp [hjl] at hj
    simp only [Nat.zero_add] at this ⊢
    simp [this, hjl, hj]
  have c := Tryd.strings_Join b 0 cap (l.map bs) (bs sep) w hcell (at_lt hb) (by rw [hlen]; omega) (by rw [hlen]; exact hc) (by rw [hmm]; exact hl)
  rw [hlen, hmm] at c
  refine fc_of Tryd.func26 (by kernel_rfl) rfl c ?_
  rintro e w' ⟨rfl, q⟩
  exact ⟨_, rfl, hK _ q⟩
theorem run_eqlN (w : World) : ((do binOp .eql 46 .nilIface .nilIface) : Sem Value).run Tryd.prog w = .ok (.bool true) w := by
  have h : Tryd.prog.underlying 46 = some (.interface (Tryd.prog.methodsAt 46)) := by kernel_rfl
  have := run_equal_nil_nil (P := Tryd.prog) w 46 h
  simp only [binOp, Sem.run_bind, this]
  rfl
theorem run_eqlH (w : World) (t : TypeId) (p : Value) : ((do binOp .eql 46 (.iface t p) .nilIface) : Sem Value).run Tryd.prog w = .ok (.bool false) w := by
  have h : Tryd.prog.underlying 46 = some (.interface (Tryd.prog.methodsAt 46)) := by kernel_rfl
  have := run_equal_held_nil (P := Tryd.prog) w 46 t p h
  simp only [binOp, Sem.run_bind, this]
  rfl
theorem parseUintM_le {M : Nat} : ∀ {l : BL} {acc u : Nat}, acc ≤ M → Lib.parseUintM M acc l = .ok u → u ≤ M
  | [], acc, u, h, e => by simp only [Lib.parseUintM] at e; injection e with e; omega
  | c :: r, acc, u, h, e => by
    simp only [Lib.parseUintM] at e
    split at e
    · split at e
      · cases e
      · split at e
        · cases e
        · exact parseUintM_le (by omega) e
    · cases e
theorem parseInt_i64 {l : BL} {v : Int} (h : Lib.parseIntB 64 l = .ok v) : I64 v := by
  unfold Lib.parseIntB at h
  split at h
  · cases h
  · simp only at h
    split at h
    · cases h
    · cases h
    · rename_i u hu
      split at h
      · cases h
      · rename_i h1
        split at h
        · cases h
        · rename_i h2
          injection h with h
          have e1 : (2 : Nat) ^ (64 - 1) = 9223372036854775808 := by decide
          rw [e1] at h1 h2
          split at h <;> rename_i hn <;> simp only [hn, not_true, not_false_iff, true_and, false_and] at h1 h2 <;> omega
/-- What strconv.ParseInt hands back beside the error. -/
theorem c_ParseInt {s : BL} {w : World} {K : Int × Value → World → Prop} (g : Gl w) (hs : s.length ≤ 4294967281)
    (h1 : ∀ v w', Lib.parseIntB 64 s = .ok v → Below w.heap.size w w' → K (v, .nilIface) w') (h2 : (∀ v, Lib.parseIntB 64 s ≠ .ok v) → ∀ n t p w', Below w.heap.size w w' → I64 n → K (n, .iface t p) w') :
    Fc Tryd.prog F_strconv_ParseInt #[.string (bs s), .int .i64 10, .int .i64 64] w (.two (.int .i64) .any) K := by
  obtain ⟨te, pe, hsy⟩ := g.s
  obtain ⟨tr, pr, hra⟩ := g.r
  cases hp : Lib.parseIntB 64 s
  · rename_i v
    refine fc_of Tryd.func20 (by kernel_rfl) rfl (Tryd.strconv_ParseInt_10_at64_ok (bs s) (by rw [bs_size]; omega) v hp w) ?_
    rintro e w' ⟨rfl, hw⟩
    refine ⟨(_, _), rfl, h1 v w' hp ?_⟩
    rcases hw with rfl | ⟨t, rfl⟩
    · exact Below.refl _ _
    · exact Lib.bytesWorld_below _ _ _
  · refine fc_of Tryd.func20 (by kernel_rfl) rfl (Tryd.strconv_ParseInt_10_at64_syntax (bs s) (by rw [bs_size]; omega) hp _ w hsy (.inr ⟨_, _, rfl⟩)) ?_
    rintro e w' ⟨N, rfl, _, _, hw⟩
    exact ⟨(_, _), rfl, h2 (fun v e => by rw [hp] at e; cases e) _ _ _ w' hw (by omega)⟩
  · refine fc_of Tryd.func20 (by kernel_rfl) rfl (Tryd.strconv_ParseInt_10_at64_range (bs s) (by rw [bs_size]; omega) hp _ w hra (.inr ⟨_, _, rfl⟩)) ?_
    rintro e w' ⟨N, rfl, _, _, hw⟩
    refine ⟨(_, _), rfl, h2 (fun v e => by rw [hp] at e; cases e) _ _ _ w' hw ?_⟩
    have : ∀ l : BL, I64 (Lib.intSat 64 l) := fun l => by
      unfold Lib.intSat
      split
      · exact ⟨by decide, by decide⟩
      · exact ⟨by decide, by decide⟩
    exact this _
end Go.Proofs.YtmecbbanklffgaaDoor

/- Rows of digits, and the state of the reference's reading. No condition. -/
namespace Go.Proofs.YtmecbbanklffgaaDoor
open Go Go.RowKit Eng Mem
set_option linter.unusedVariables false
set_option maxRecDepth 100000
theorem dg_un {x : UInt8} (h0 : 48 ≤ x.toNat) (h1 : x.toNat < 58) : dg (un x) = x := by
  unfold dg un
  rw [Mem.wrap_u8 (by omega) (by omega), show ((x.toNat : Int) - 48).toNat = x.toNat - 48 from by omega, show 48 + (x.toNat - 48) = x.toNat from by omega]
  simp
theorem un_nat {x : UInt8} (h0 : 48 ≤ x.toNat) : un x = (x.toNat : Int) - 48 := by
  unfold un
  have := x.toNat_lt
  rw [Mem.wrap_u8 (by omega) (by omega)]
/-- The first m rows are of their lengths, and hold digits below k. -/
def Good (rows : List BL) (k : Int) (m : Nat) : Prop := ∀ r, r < m → ∃ row, rows[r]? = some row ∧ row.length = r + 1 ∧ ∀ x ∈ row, 48 ≤ x.toNat ∧ (x.toNat : Int) - 48 < k
theorem good_len {rows : List BL} {k : Int} : ∀ {m : Nat}, Good rows k m → ((rows.take m).flatten).length = tri m
  | 0, _ => rfl
  | m + 1, h => by
    obtain ⟨row, h1, h2, _⟩ := h m (by omega)
    rw [List.take_add_one, h1, List.flatten_append, List.length_append, good_len fun r hr => h r (by omega)]
    simp [tri, h2]
theorem good_is {rows : List BL} {n k : Int} {m : Nat} (hm : rows.length = m) (hn : n = (m : Int) + 1) (n1 : n ≤ 17) (k0 : 1 ≤ k) (k1 : k ≤ 4) (h : Good rows k m) : (colX n k rows.flatten).Ok ∧ (colX n k rows.flatten).Is ∧ rowsT (colX n k rows.flatten) m = rows := by
  have hfl : rows.flatten.length = tri m := by
    have := good_len h
    rwa [List.take_of_length_le (by omega)] at this
  have htr : edgesOf n = tri m := by
    have := tri_edges ⟨m + 1, by omega⟩ (by simp)
    simp only [Nat.add_sub_cancel] at this
    rw [hn, ← this]; rfl
  have h136 := edges_le (n := n) (by omega) n1
  have hle : rows.flatten.length ≤ 136 := by omega
  have hdig : ∀ x ∈ rows.flatten, 48 ≤ x.toNat ∧ (x.toNat : Int) - 48 < k := by
    intro x hx
    obtain ⟨row0, hr, hx⟩ := List.mem_flatten.1 hx
    obtain ⟨r, hrl, rfl⟩ := List.getElem_of_mem hr
    obtain ⟨row, h1, _, h3⟩ := h r (by omega)
    rw [List.getElem?_eq_getElem hrl] at h1
    rw [Option.some.inj h1] at hx
    exact h3 x hx
  refine ⟨colX_ok hle ⟨by omega, by omega⟩ ⟨by omega, by omega⟩, ⟨by show 1 ≤ n; omega, n1, k0, k1, fun i hi => ?_⟩, ?_⟩
  · rw [colX_e]
    show if (i : Int) < edgesOf n then _ < k else _ = 0
    by_cases hlt : i < rows.flatten.length
    · rw [dif_pos hlt, if_pos (by omega)]
      have := hdig _ (List.getElem_mem hlt)
      rw [un_nat this.1]; exact this.2
    · rw [dif_neg hlt, if_neg (by omega)]
  · apply List.ext_getElem
    · rw [rowsT_len, hm]
    · intro r h1 h2
      obtain ⟨row, e1, e2, e3⟩ := h r (by omega)
      rw [List.getElem?_eq_getElem h2] at e1
      have e1 := Option.some.inj e1
      simp only [rowsT, List.getElem_map, List.getElem_range, rowT, Nat.add_sub_cancel]
      rw [e1]
      apply List.ext_getElem
      · simp [e2]
      · intro i i1 i2
        simp only [List.getElem_map, List.getElem_range]
        have hd := e3 _ (List.getElem_mem i2)
        have htl : ((rows.take r).flatten).length = tri r := good_len fun q hq => h q (by omega)
        have hsp : rows.flatten = (rows.take r).flatten ++ (row ++ (rows.drop (r + 1)).flatten) := by
          conv => lhs; rw [← List.take_append_drop r rows, List.flatten_append, List.drop_eq_getElem_cons h2, List.flatten_cons, e1]
        have hge : rows.flatten[tri r + i]? = some row[i] := by
          rw [hsp, List.getElem?_append_right (by omega), htl, Nat.add_sub_cancel_left, List.getElem?_append_left i2, List.getElem?_eq_getElem i2]
        have hlt : tri r + i < rows.flatten.length := (List.getElem?_eq_some_iff.1 hge).1
        rw [colX_e, dif_pos hlt]
        rw [List.getElem?_eq_getElem hlt] at hge
        rw [Option.some.inj hge]
        exact dg_un hd.1 (by omega)
theorem row_get {c : Col} {m r : Nat} {row : BL} (h : (rowsT c m)[r]? = some row) : r < m ∧ row = rowT c (r + 1) := by
  simp only [rowsT, List.getElem?_map, Option.map_eq_some_iff] at h
  obtain ⟨q, hq, rfl⟩ := h
  have hl := (List.getElem?_eq_some_iff.1 hq).1
  rw [List.length_range] at hl
  rw [List.getElem?_range hl] at hq
  have := Option.some.inj hq
  subst this
  exact ⟨hl, rfl⟩
theorem row_dig {c : Col} (h : c.Is) (ho : c.Ok) {m r i : Nat} {x : UInt8} (hm : (m : Int) = c.n - 1) (hr : r < m) (hi : (rowT c (r + 1))[i]? = some x) : 48 ≤ x.toNat ∧ (x.toNat : Int) - 48 < c.k := by
  simp only [rowT, List.getElem?_map, Option.map_eq_some_iff, Nat.add_sub_cancel] at hi
  obtain ⟨q, hq, rfl⟩ := hi
  have hl := (List.getElem?_eq_some_iff.1 hq).1
  rw [List.length_range] at hl
  rw [List.getElem?_range hl] at hq
  have hq := Option.some.inj hq
  subst hq
  have hb := Is.e_bd h ho (tri r + i)
  have ht := tri_edges ⟨c.n.toNat, (fin_n h).1⟩ (by have := h.1; simp only; omega)
  simp only at ht
  rw [show ((c.n.toNat : Nat) : Int) = c.n from by have := h.1; omega, show c.n.toNat - 1 = m from by omega] at ht
  have hmono := tri_mono (a := r + 1) (b := m) (by omega)
  simp only [tri] at hmono
  have hle := edges_le h.1 h.2.1
  have he := h.2.2.2.2 (tri r + i) (by omega)
  rw [if_pos (by omega)] at he
  rw [dg_nat hb.1 (by omega)]
  omega
/-- The reference's state: the result's variable, and the colouring being made. -/
structure Rd (w0 w : World) (p : Value) (b : Nat) (n k : Int) (d : BL) : Prop where
  bel : Below w0.heap.size w0 w
  var : CVar w0.heap.size w p
  blk : BlkC w b (colX n k d)
  lo : w0.heap.size ≤ b
  ne : p ≠ ptr b 0
theorem Rd.keep {w0 w w' : World} {p : Value} {b : Nat} {n k : Int} {d : BL} (h : Rd w0 w p b n k d) (q : Below w.heap.size w w') : Rd w0 w' p b n k d :=
  ⟨h.bel.trans (q.mono h.bel.size), h.var.keep q, below_at q h.blk (at_lt h.blk), h.lo, h.ne⟩
theorem Rd.at {w0 w : World} {p : Value} {b : Nat} {n k : Int} {d : BL} (h : Rd w0 w p b n k d) : ColAt w (ptr b 0) (colX n k d) := blk_row h.blk
theorem Rd.put {w0 w : World} {p : Value} {b : Nat} {n k i : Int} {d : BL} {x : UInt8} {ik : IntKind} {K : World → Prop} (h : Rd w0 w p b n k d) (hi : i = (d.length : Int)) (hl : d.length < 136)
    (hK : ∀ w', Mod [b] w w' → Rd w0 w' p b n k (d ++ [x]) → K w') :
    QAll Tryd.prog (Instr.indexAt tA (ptr b 2) (.int ik i)) .any fun q => PrU Tryd.prog (Instr.storeAt tB q (.int .u8 (un x))) w K := by
  subst hi
  refine put_e h.blk (esX_len (by omega)) (by omega) (by omega) fun w' m hs hb => hK w' m ⟨h.bel.trans (m.below h.bel.size (by simp; exact h.lo)), h.var.mod m h.ne, ?_, h.lo, h.ne⟩
  rw [Int.toNat_natCast, esX_snoc hl] at hb
  exact hb
end Go.Proofs.YtmecbbanklffgaaDoor

/- The reading of impl_decimal, and its contract. No condition. -/
namespace Go.Proofs.YtmecbbanklffgaaDoor
open Go Go.RowKit Eng Mem
set_option linter.unusedVariables false
set_option maxRecDepth 100000
def V_impl_decimal (n0 : Int) (w : World) (K : ByteArray → World → Prop) : Prop :=
  (Fc Tryd.prog 30 #[(.int .i64 n0), (.int .i64 (10 : Int))] w (.one .str) fun (x4_2 : ByteArray) w_1 => K x4_2 w_1)

theorem eq_impl_decimal (n0 : Int) (w : World) (K : ByteArray → World → Prop) :
    W Tryd.prog ty (fun _ _ _ _ => False) (bodyOf Tryd.f21) (fnPost Tryd.prog Tryd.f21.results.toList (.one .str) K) (frame0 [(.int .i64 n0)] 5) w = V_impl_decimal n0 w K := by
  kernel_rfl

theorem body_impl_decimal : Tryd.f21.body = some (bodyOf Tryd.f21) := by kernel_rfl
theorem name_impl_decimal : (Tryd.f21.name == "runtime.NumGoroutine") = false := by kernel_rfl

theorem walk_impl_decimal (n0 : Int) {w : World} {K : ByteArray → World → Prop} (h : V_impl_decimal n0 w K) : Fc Tryd.prog 21 #[(.int .i64 n0)] w (.one .str) K :=
  fn_ok follows (sound_none _) Tryd.func21 name_impl_decimal body_impl_decimal Tryd.ntmps21 [(.int .i64 n0)] (Eq.mpr (eq_impl_decimal n0 w K) h)

-- uses S9PrsM
theorem c_impl_decimal {n : Int} {w : World} {K : ByteArray → World → Prop} (g : Gl w) (hn : I64 n) (hK : ∀ w', Below w.heap.size w w' → K (bs (Lib.itoa n)) w') : Fc Tryd.prog F_impl_decimal #[.int .i64 n] w (.one .str) K :=
  walk_impl_decimal _ (c_FormatInt g hn hK)

end Go.Proofs.YtmecbbanklffgaaDoor

/- The reading of impl_Colouring_text, and its contract. No condition. -/
namespace Go.Proofs.YtmecbbanklffgaaDoor
open Go Go.RowKit Eng Mem
set_option linter.unusedVariables false
set_option maxRecDepth 100000
def B_impl_Colouring_text_7 (x0 : Value) (rows3 : Value) (j4 : Int) (x17 : Int) (row5 : Value) (x18 : Int) (N : (Value × Value × Int × Int) → (Value × Int) → World → Prop) (D2 : (Value × Value × Int × Value × Unit) → World → Prop) (w : World) : Prop :=
  (((decide (x18 < x17)) = true → (Fc Tryd.prog 25 #[x0, (.int .i64 x18), (.int .i64 j4)] w (.one (.int .i64)) fun (x25_8 : Int) w_7 => (QAll Tryd.prog (convert 2 5 (.int .i64 (IntKind.i64.wrap ((48 : Int) + x25_8)))) (.int .u8) fun (x27_9 : Int) => (Pr Tryd.prog (Instr.buildSlice 53 1 #[(0, (.int .u8 x27_9))]) w_7 (.one .any) fun (x28_11 : Value) w_10 => (Pr Tryd.prog (Builtin.append_ #[53, 53] 53 #[row5, x28_11]) w_10 (.one .any) fun (x29_13 : Value) w_12 => N ((x0 : Value), (rows3 : Value), j4, x17) ((x29_13 : Value), (IntKind.i64.wrap (x18 + (1 : Int)))) w_12))))) ∧ ((decide (x18 < x17)) = false → D2 ((x0 : Value), (rows3 : Value), j4, (row5 : Value), ()) w))

abbrev L_impl_Colouring_text_7_e2 : List Slot := [.k .any, .junk, .junk, .k .any, .k (.int .i64), .k .any, .junk, .junk, .junk, .junk, .junk, .junk, .junk, .junk, .junk, .junk, .junk, .junk, .junk, .junk, .junk, .junk, .junk, .junk, .junk, .junk, .junk, .junk, .junk, .junk, .junk, .junk, .junk, .junk, .junk, .junk, .junk, .junk, .junk, .junk, .junk, .junk, .junk, .junk, .junk, .junk, .junk, .junk, .junk, .junk, .junk, .junk]

abbrev L_impl_Colouring_text_7_sp : List Slot := [.k .any, .junk, .junk, .k .any, .k (.int .i64), .k .any, .junk, .junk, .junk, .junk, .junk, .junk, .junk, .junk, .junk, .junk, .junk, .k (.int .i64), .k (.int .i64), .junk, .junk, .junk, .junk, .junk, .junk, .junk, .junk, .junk, .junk, .junk, .junk, .junk, .junk, .junk, .junk, .junk, .junk, .junk, .junk, .junk, .junk, .junk, .junk, .junk, .junk, .junk, .junk, .junk, .junk, .junk, .junk, .junk]
abbrev L_impl_Colouring_text_7_ex : List (Nat × List Slot) := [(2, L_impl_Colouring_text_7_e2)]
abbrev L_impl_Colouring_text_7_rt : List Slot := [.junk, .junk, .junk, .junk, .junk, .junk, .junk, .junk, .junk, .junk, .junk, .junk, .junk, .junk, .junk, .junk, .junk, .junk, .junk, .junk, .junk, .junk, .junk, .junk, .junk, .junk, .junk, .junk, .junk, .junk, .junk, .junk, .junk, .junk, .junk, .junk, .junk, .junk, .junk, .junk, .junk, .junk, .junk, .junk, .junk, .junk, .junk, .junk, .junk, .junk, .junk, .junk]

def L_impl_Colouring_text_7_b (Φ : Post) (u : (Value × Value × Int × Int)) (N : (Value × Value × Int × Int) → (Value × Int) → World → Prop) (s : (Value × Int)) (w : World) : Prop :=
  B_impl_Colouring_text_7 u.1 u.2.1 u.2.2.1 u.2.2.2 s.1 s.2 N (fun v w => ∀ j : Nat → Value, Φ (.exit 2) (mkT j 0 L_impl_Colouring_text_7_e2 v) w) w

theorem L_impl_Colouring_text_7_eq (j : Nat → Value) (u : (Value × Value × Int × Int)) (s : (Value × Int)) (N : (Value × Value × Int × Int) → (Value × Int) → World → Prop) (D2 : (Value × Value × Int × Value × Unit) → World → Prop) (R : (Unit) → World → Prop) (w : World) :
    W Tryd.prog ty (fun _ _ _ _ => False) (loopAt Tryd.f13 7) (loopPost L_impl_Colouring_text_7_sp [(2, (⟨L_impl_Colouring_text_7_e2, D2⟩ : Door))] ⟨L_impl_Colouring_text_7_rt, R⟩ (fun v w => N ((fun v => (v.1, v.2.1, v.2.2.1, v.2.2.2.2.1)) v) ((fun v => (v.2.2.2.1, v.2.2.2.2.2.1)) v) w)) (mkT j 0 L_impl_Colouring_text_7_sp ((fun u s => (u.1, u.2.1, u.2.2.1, s.1, u.2.2.2, s.2, ())) u s)) w =
    B_impl_Colouring_text_7 u.1 u.2.1 u.2.2.1 u.2.2.2 s.1 s.2 N D2 w := by
  kernel_rfl

def O_impl_Colouring_text_1 : Code → Post → List SV → World → Prop :=
  orc 7 (loopAt Tryd.f13 7) L_impl_Colouring_text_7_sp (fun Φ fr w => LOOP (U := (Value × Value × Int × Int)) (S := (Value × Int)) ((fun v => (v.1, v.2.1, v.2.2.1, v.2.2.2.2.1)) (extT L_impl_Colouring_text_7_sp fr)) (L_impl_Colouring_text_7_b Φ ((fun v => (v.1, v.2.1, v.2.2.1, v.2.2.2.2.1)) (extT L_impl_Colouring_text_7_sp fr))) ((fun v => (v.2.2.2.1, v.2.2.2.2.2.1)) (extT L_impl_Colouring_text_7_sp fr)) w) (fun _ _ _ _ => False)

theorem O_impl_Colouring_text_1_ok : Sound Tryd.prog O_impl_Colouring_text_1 :=
  orc_ok (sound_none _) fun Φ fr w hs h => loop_ok (ty := ty) follows (sound_none _) L_impl_Colouring_text_7_sp (fun v => (v.1, v.2.1, v.2.2.1, v.2.2.2.2.1)) (fun v => (v.2.2.2.1, v.2.2.2.2.2.1)) (fun u s => (u.1, u.2.1, u.2.2.1, s.1, u.2.2.2, s.2, ())) (fun _ => rfl) L_impl_Colouring_text_7_ex L_impl_Colouring_text_7_rt (body := L_impl_Colouring_text_7_b Φ) (fun j u s w N hb => by
    have e := L_impl_Colouring_text_7_eq j u s N (doorOf Φ (.exit 2) L_impl_Colouring_text_7_e2).D (doorOf Φ .ret L_impl_Colouring_text_7_rt).D w
    exact Eq.mpr e hb) hs h

def B_impl_Colouring_text_3 (x0 : Value) (rows3 : Value) (j4 : Int) (N : Value → (Value × Int) → World → Prop) (D0 : (Value × Value × Unit) → World → Prop) (w : World) : Prop :=
  (NilOk x0 ∧ (QAll Tryd.prog (Instr.fieldAt 24 x0 0) .any fun (x11_3 : Value) => (QSub Tryd.prog (Instr.loadAt 2 x11_3) w (.int .i64) fun (x12_4 : Int) => (((decide (j4 < x12_4)) = true → (Pr Tryd.prog (Instr.buildSlice 53 0 #[]) w (.one .any) fun (x16_6 : Value) w_5 => (At (loopAt Tryd.f13 7) (loopAt Tryd.f13 7) (LOOP (U := (Value × Value × Int × Int)) (S := (Value × Int)) ((x0 : Value), (rows3 : Value), j4, j4) (fun N_23 s_24 w_25 => B_impl_Colouring_text_7 (x0 : Value) (rows3 : Value) j4 j4 s_24.1 s_24.2 N_23 (fun (v_14 : (Value × Value × Int × Value × Unit)) w_15 => ∀ _j_16 : Nat → Value, (Pr Tryd.prog (convert 53 9 v_14.2.2.2.1) w_15 (.one .str) fun (x33_18 : ByteArray) w_17 => (Pr Tryd.prog (Instr.buildSlice 40 1 #[(0, (.string x33_18))]) w_17 (.one .any) fun (x34_20 : Value) w_19 => (Pr Tryd.prog (Builtin.append_ #[40, 40] 40 #[v_14.2.1, x34_20]) w_19 (.one .any) fun (x35_22 : Value) w_21 => N (v_14.1 : Value) ((x35_22 : Value), (IntKind.i64.wrap (v_14.2.2.1 + (1 : Int)))) w_21)))) w_25) ((x16_6 : Value), (0 : Int)) w_5)))) ∧ ((decide (j4 < x12_4)) = false → D0 ((x0 : Value), (rows3 : Value), ()) w)))))

abbrev L_impl_Colouring_text_3_e0 : List Slot := [.k .any, .junk, .junk, .k .any, .junk, .junk, .junk, .junk, .junk, .junk, .junk, .junk, .junk, .junk, .junk, .junk, .junk, .junk, .junk, .junk, .junk, .junk, .junk, .junk, .junk, .junk, .junk, .junk, .junk, .junk, .junk, .junk, .junk, .junk, .junk, .junk, .junk, .junk, .junk, .junk, .junk, .junk, .junk, .junk, .junk, .junk, .junk, .junk, .junk, .junk, .junk, .junk]

abbrev L_impl_Colouring_text_3_sp : List Slot := [.k .any, .junk, .junk, .k .any, .k (.int .i64), .junk, .junk, .junk, .junk, .junk, .junk, .junk, .junk, .junk, .junk, .junk, .junk, .junk, .junk, .junk, .junk, .junk, .junk, .junk, .junk, .junk, .junk, .junk, .junk, .junk, .junk, .junk, .junk, .junk, .junk, .junk, .junk, .junk, .junk, .junk, .junk, .junk, .junk, .junk, .junk, .junk, .junk, .junk, .junk, .junk, .junk, .junk]
abbrev L_impl_Colouring_text_3_ex : List (Nat × List Slot) := [(0, L_impl_Colouring_text_3_e0)]
abbrev L_impl_Colouring_text_3_rt : List Slot := [.junk, .junk, .junk, .junk, .junk, .junk, .junk, .junk, .junk, .junk, .junk, .junk, .junk, .junk, .junk, .junk, .junk, .junk, .junk, .junk, .junk, .junk, .junk, .junk, .junk, .junk, .junk, .junk, .junk, .junk, .junk, .junk, .junk, .junk, .junk, .junk, .junk, .junk, .junk, .junk, .junk, .junk, .junk, .junk, .junk, .junk, .junk, .junk, .junk, .junk, .junk, .junk]

def L_impl_Colouring_text_3_b (Φ : Post) (u : Value) (N : Value → (Value × Int) → World → Prop) (s : (Value × Int)) (w : World) : Prop :=
  B_impl_Colouring_text_3 u s.1 s.2 N (fun v w => ∀ j : Nat → Value, Φ (.exit 0) (mkT j 0 L_impl_Colouring_text_3_e0 v) w) w

theorem L_impl_Colouring_text_3_eq (j : Nat → Value) (u : Value) (s : (Value × Int)) (N : Value → (Value × Int) → World → Prop) (D0 : (Value × Value × Unit) → World → Prop) (R : (Unit) → World → Prop) (w : World) :
    W Tryd.prog ty O_impl_Colouring_text_1 (loopAt Tryd.f13 3) (loopPost L_impl_Colouring_text_3_sp [(0, (⟨L_impl_Colouring_text_3_e0, D0⟩ : Door))] ⟨L_impl_Colouring_text_3_rt, R⟩ (fun v w => N ((fun v => v.1) v) ((fun v => (v.2.1, v.2.2.1)) v) w)) (mkT j 0 L_impl_Colouring_text_3_sp ((fun u s => (u, s.1, s.2, ())) u s)) w =
    B_impl_Colouring_text_3 u s.1 s.2 N D0 w := by
  kernel_rfl

def O_impl_Colouring_text_2 : Code → Post → List SV → World → Prop :=
  orc 3 (loopAt Tryd.f13 3) L_impl_Colouring_text_3_sp (fun Φ fr w => LOOP (U := Value) (S := (Value × Int)) ((fun v => v.1) (extT L_impl_Colouring_text_3_sp fr)) (L_impl_Colouring_text_3_b Φ ((fun v => v.1) (extT L_impl_Colouring_text_3_sp fr))) ((fun v => (v.2.1, v.2.2.1)) (extT L_impl_Colouring_text_3_sp fr)) w) O_impl_Colouring_text_1

theorem O_impl_Colouring_text_2_ok : Sound Tryd.prog O_impl_Colouring_text_2 :=
  orc_ok O_impl_Colouring_text_1_ok fun Φ fr w hs h => loop_ok (ty := ty) follows O_impl_Colouring_text_1_ok L_impl_Colouring_text_3_sp (fun v => v.1) (fun v => (v.2.1, v.2.2.1)) (fun u s => (u, s.1, s.2, ())) (fun _ => rfl) L_impl_Colouring_text_3_ex L_impl_Colouring_text_3_rt (body := L_impl_Colouring_text_3_b Φ) (fun j u s w N hb => by
    have e := L_impl_Colouring_text_3_eq j u s N (doorOf Φ (.exit 0) L_impl_Colouring_text_3_e0).D (doorOf Φ .ret L_impl_Colouring_text_3_rt).D w
    exact Eq.mpr e hb) hs h

def V_impl_Colouring_text (x0 : Value) (w : World) (K : ByteArray → World → Prop) : Prop :=
  (Pr Tryd.prog (Instr.buildSlice 40 0 #[]) w (.one .any) fun (x7_2 : Value) w_1 => (At (loopAt Tryd.f13 3) (loopAt Tryd.f13 3) (LOOP (U := Value) (S := (Value × Int)) (x0 : Value) (fun N_44 s_45 w_46 => B_impl_Colouring_text_3 (x0 : Value) s_45.1 s_45.2 N_44 (fun (v_26 : (Value × Value × Unit)) w_27 => ∀ _j_28 : Nat → Value, (∀ w_29, Drew w_27 w_29 → (NilOk v_26.1 ∧ (QAll Tryd.prog (Instr.fieldAt 24 v_26.1 0) .any fun (x38_30 : Value) => (QSub Tryd.prog (Instr.loadAt 2 x38_30) w_29 (.int .i64) fun (x39_31 : Int) => (NilOk v_26.1 ∧ (QAll Tryd.prog (Instr.fieldAt 24 v_26.1 1) .any fun (x44_32 : Value) => (QSub Tryd.prog (Instr.loadAt 2 x44_32) w_29 (.int .i64) fun (x45_33 : Int) => (Fc Tryd.prog 21 #[(.int .i64 x39_31)] w_29 (.one .str) fun (x40_35 : ByteArray) w_34 => (Keeps w_29 w_34 ((QAll Tryd.prog (do eqGuard .add 9 (.tmp 40) (.const (.string (⟨#[44]⟩))) (.string x40_35) (.string (⟨#[44]⟩)); binOp .add 9 (.string x40_35) (.string (⟨#[44]⟩))) .str fun (x41_36 : ByteArray) => (Fc Tryd.prog 21 #[(.int .i64 x45_33)] w_34 (.one .str) fun (x46_38 : ByteArray) w_37 => (Keeps w_29 w_37 ((QAll Tryd.prog (do eqGuard .add 9 (.tmp 41) (.tmp 46) (.string x41_36) (.string x46_38); binOp .add 9 (.string x41_36) (.string x46_38)) .str fun (x47_39 : ByteArray) => (QAll Tryd.prog (do eqGuard .add 9 (.tmp 47) (.const (.string (⟨#[58]⟩))) (.string x47_39) (.string (⟨#[58]⟩)); binOp .add 9 (.string x47_39) (.string (⟨#[58]⟩))) .str fun (x48_40 : ByteArray) => (Fc Tryd.prog 26 #[v_26.2.1, (.string (⟨#[44]⟩))] w_37 (.one .str) fun (x50_42 : ByteArray) w_41 => (Keeps w_29 w_41 ((QAll Tryd.prog (do eqGuard .add 9 (.tmp 48) (.tmp 50) (.string x48_40) (.string x50_42); binOp .add 9 (.string x48_40) (.string x50_42)) .str fun (x51_43 : ByteArray) => K x51_43 w_41))))))))))))))))))))) w_46) ((x7_2 : Value), (1 : Int)) w_1)))

theorem eq_impl_Colouring_text (x0 : Value) (w : World) (K : ByteArray → World → Prop) :
    W Tryd.prog ty O_impl_Colouring_text_2 (bodyOf Tryd.f13) (fnPost Tryd.prog Tryd.f13.results.toList (.one .str) K) (frame0 [x0] 52) w = V_impl_Colouring_text x0 w K := by
  kernel_rfl

theorem body_impl_Colouring_text : Tryd.f13.body = some (bodyOf Tryd.f13) := by kernel_rfl
theorem name_impl_Colouring_text : (Tryd.f13.name == "runtime.NumGoroutine") = false := by kernel_rfl

theorem walk_impl_Colouring_text (x0 : Value) {w : World} {K : ByteArray → World → Prop} (h : V_impl_Colouring_text x0 w K) : Fc Tryd.prog 13 #[x0] w (.one .str) K :=
  fn_ok follows O_impl_Colouring_text_2_ok Tryd.func13 name_impl_Colouring_text body_impl_Colouring_text Tryd.ntmps13 [x0] (Eq.mpr (eq_impl_Colouring_text x0 w K) h)

-- uses S9PrsR
theorem jn_len (b : UInt8) : ∀ xs : List BL, (jn b xs).length ≤ xs.flatten.length + xs.length
  | [] => by simp [jn]
  | [x] => by simp [jn]
  | x :: y :: r => by
    have := jn_len b (y :: r)
    simp only [jn, List.length_append, List.length_cons, List.flatten_cons] at this ⊢
    omega
theorem decS_len (n : Nat) : (decS n).length ≤ 2 := by unfold decS; split <;> simp
theorem tail_len {c : Col} (h : c.Is) : (tailT c).length ≤ 200 := by
  unfold tailT
  have h1 := jn_len 44 (rowsT c (c.n.toNat - 1))
  have ht := tri_edges ⟨c.n.toNat, (fin_n h).1⟩ (by have := h.1; simp only; omega)
  have hnn : ((c.n.toNat : Nat) : Int) = c.n := by have := h.1; omega
  simp only [hnn] at ht
  have hle := edges_le h.1 h.2.1
  rw [rows_flat, List.length_map, List.length_range, rowsT_len] at h1
  have := h.2.1
  omega
theorem c_impl_Colouring_text {p : Value} {c : Col} {w : World} {K : ByteArray → World → Prop} (ho : c.Ok) (h : c.Is) (hx : ColAt w p c) (g : Gl w) (hK : ∀ w', Below w.heap.size w w' → K (bs (textT c)) w') :
    Fc Tryd.prog F_impl_Colouring_text #[p] w (.one .str) K := by
  have n1 := h.1; have n17 := h.2.1; have k1 := h.2.2.1; have k4 := h.2.2.2.1
  refine walk_impl_Colouring_text _ (nilT fun b0 v0 w1 hb0 q1 o1 => ?_)
  have z1 := q1.size
  refine lp (fun s w' => ∃ (m b : Nat), s.2 = (m : Int) + 1 ∧ (m : Int) + 1 ≤ c.n ∧ w.heap.size ≤ b ∧ OwnT w' b s.1 (rowsT c m) ∧ Below w.heap.size w w') (fun s _ => (c.n - s.2).toNat) ⟨0, b0, by simp, by simp; omega, by omega, o1, q1⟩ ?_
  rintro ⟨v, j⟩ w2 N ⟨m, b, ej, hm, hb, o2, q2⟩ hN
  simp only at ej o2
  subst ej
  unfold B_impl_Colouring_text_3
  dsimp only
  have hx2 := hx.keep q2
  have z2 := q2.size
  have lt2 := o2.lt
  refine ⟨hx2.nonnil, col_n hx2 ⟨fun hlt => ?_, fun hge _ w3 hd => ?_⟩⟩
  · have hlt : (m : Int) + 1 < c.n := dec_t hlt
    refine nilU fun b3 v3 w3 hb3 q3 o3 => ?_
    have z3 := q3.size
    refine lp (fun s w' => ∃ (q b : Nat), s.2 = (q : Int) ∧ q ≤ m + 1 ∧ w2.heap.size ≤ b ∧ OwnU w' b s.1 ((List.range q).map fun i => dg (c.e (tri m + i))) ∧ Below w2.heap.size w2 w') (fun s _ => ((m : Int) + 1 - s.2).toNat) ⟨0, b3, rfl, Nat.zero_le _, by omega, o3, q3⟩ ?_
    rintro ⟨u, i⟩ w4 N2 ⟨q, b4, ei, hq, hb4, o4, q4⟩ hN2
    simp only at ei o4
    subst ei
    unfold B_impl_Colouring_text_7
    dsimp only
    have z4 := q4.size
    refine ⟨fun h2 => ?_, fun h2 _ => ?_⟩
    · have h2 : (q : Int) < (m : Int) + 1 := dec_t h2
      refine c_impl_Colouring_at ho (hx2.keep q4) (by omega) (by omega) (by omega) (by omega) (by omega) fun w5 q5 => ?_
      have z5 := q5.size
      have hnum : (num (q : Int) ((m : Int) + 1)).toNat = tri m + q := by
        rw [num_of (by omega)]
        have := enum_tri (i := q) (j := m + 1) (by omega) (by omega)
        simp only [Nat.add_sub_cancel] at this
        rw [show enum (q : Int) ((m : Int) + 1) = ((tri m + q : Nat) : Int) from this]
        exact Int.toNat_natCast _
      rw [hnum]
      have hb := Is.e_bd h ho (tri m + q)
      rw [Mem.wrap_small (n := 48 + c.e (tri m + q)) (by omega) (by omega)]
      refine int_u8 (by omega) (by omega) (appU (x := dg (c.e (tri m + q))) (by rw [dg_nat hb.1 (by omega)]; omega) (o4.keep q5) (by simp; omega) fun v' w6 b6 o6 m6 h6 => ?_)
      rw [Mem.wrap_small (n := (q : Int) + 1) (by omega) (by omega)]
      have q25 := q4.trans (q5.mono z4)
      refine hN2 _ _ ⟨q + 1, b6, by simp, by omega, by omega, ?_, q25.trans (m6.below q25.size (by simp; omega))⟩ (by simp only; omega)
      rw [List.range_succ, List.map_append]
      exact o6
    · have h2 : ¬ (q : Int) < (m : Int) + 1 := dec_f h2
      have hqm : q = m + 1 := by omega
      subst hqm
      refine cvU o4 ?_
      have hrow : ((List.range (m + 1)).map fun i => dg (c.e (tri m + i))) = rowT c (m + 1) := rfl
      rw [hrow]
      refine appT (o2.keep q4) (by rw [rowsT_len]; omega) fun v' w6 b6 o6 m6 h6 => ?_
      rw [Mem.wrap_small (n := (m : Int) + 1 + 1) (by omega) (by omega)]
      have q24 := q2.trans (q4.mono z2)
      refine hN _ _ ⟨m + 1, b6, by simp, by omega, by omega, by rw [rowsT_succ]; exact o6, q24.trans (m6.below q24.size (by simp; omega))⟩ (by simp only; omega)
  · have hge : ¬ (m : Int) + 1 < c.n := dec_f hge
    have hmn : m = c.n.toNat - 1 := by omega
    have hx3 := hx2.keep (hd.below w2.heap.size)
    have o3 := o2.keep (hd.below w2.heap.size)
    have q3 := q2.trans (hd.below _)
    have g3 := g.keep q3
    have hjl : (Lib.join (rowsT c m) [44]).length ≤ 200 := by
      rw [join_jn, hmn]; exact tail_len h
    have dn := decS_len c.n.toNat; have dk := decS_len c.k.toNat
    refine ⟨hx3.nonnil, col_n hx3 ⟨hx3.nonnil, col_k hx3 (c_impl_decimal g3 ⟨by omega, by omega⟩ fun w4 q4 => ⟨q4, ?_⟩)⟩⟩
    rw [itoa_small (by omega) (by omega)]
    refine addT (b := [44]) (by omega) (by simp) (c_impl_decimal (g3.keep q4) ⟨by omega, by omega⟩ fun w5 q5 => ?_)
    have q35 := q4.trans (q5.mono q4.size)
    refine ⟨q35, ?_⟩
    rw [itoa_small (by omega) (by omega)]
    refine addT (by simp; omega) (by omega) (addT (b := [58]) (by simp; omega) (by simp) (c_Join (sep := [44]) (o3.keep q35) (by rw [rowsT_len]; omega) (by omega) fun w6 q6 => ?_))
    have q36 := q35.trans (q6.mono q35.size)
    refine ⟨q36, addT (by simp; omega) (by omega) ?_⟩
    have : (((decS c.n.toNat ++ [44]) ++ decS c.k.toNat) ++ [58]) ++ Lib.join (rowsT c m) [44] = textT c := by
      rw [join_jn, hmn]
      unfold textT headT tailT
      simp
    rw [this]
    exact hK w6 (q3.trans (q36.mono q3.size))

end Go.Proofs.YtmecbbanklffgaaDoor

/- The reading of impl_readNumber, and its contract. No condition. -/
namespace Go.Proofs.YtmecbbanklffgaaDoor
open Go Go.RowKit Eng Mem
set_option linter.unusedVariables false
set_option maxRecDepth 100000
def V_impl_readNumber (text0 : ByteArray) (w : World) (K : (Int × Bool) → World → Prop) : Prop :=
  (Fc Tryd.prog 20 #[(.string text0), (.int .i64 (10 : Int)), (.int .i64 (64 : Int))] w (.two (.int .i64) .any) fun (x8_2 : Int × Value) w_1 => (QAll Tryd.prog (do eqGuard .eql 46 (.tmp 12) (.const .nilIface) x8_2.2 .nilIface; binOp .eql 46 x8_2.2 .nilIface) .bool fun (x13_3 : Bool) => ((x13_3 = true → (Fc Tryd.prog 21 #[(.int .i64 x8_2.1)] w_1 (.one .str) fun (x16_5 : ByteArray) w_4 => (QAll Tryd.prog (do eqGuard .eql 9 (.tmp 16) (.tmp 17) (.string x16_5) (.string text0); binOp .eql 9 (.string x16_5) (.string text0)) .bool fun (x18_6 : Bool) => K (x8_2.1, x18_6) w_4))) ∧ (x13_3 = false → K (x8_2.1, false) w_1))))

theorem eq_impl_readNumber (text0 : ByteArray) (w : World) (K : (Int × Bool) → World → Prop) :
    W Tryd.prog ty (fun _ _ _ _ => False) (bodyOf Tryd.f9) (fnPost Tryd.prog Tryd.f9.results.toList (.two (.int .i64) .bool) K) (frame0 [(.string text0)] 20) w = V_impl_readNumber text0 w K := by
  kernel_rfl

theorem body_impl_readNumber : Tryd.f9.body = some (bodyOf Tryd.f9) := by kernel_rfl
theorem name_impl_readNumber : (Tryd.f9.name == "runtime.NumGoroutine") = false := by kernel_rfl

theorem walk_impl_readNumber (text0 : ByteArray) {w : World} {K : (Int × Bool) → World → Prop} (h : V_impl_readNumber text0 w K) : Fc Tryd.prog 9 #[(.string text0)] w (.two (.int .i64) .bool) K :=
  fn_ok follows (sound_none _) Tryd.func9 name_impl_readNumber body_impl_readNumber Tryd.ntmps9 [(.string text0)] (Eq.mpr (eq_impl_readNumber text0 w K) h)

-- uses S9PrsM
/-- readNumber hands back true if its text is a number's decimal. -/
theorem c_impl_readNumber {s : BL} {w : World} {K : Int × Bool → World → Prop} (g : Gl w) (hs : s.length ≤ 1048576)
    (hK : ∀ w' n b, Below w.heap.size w w' → I64 n → (b = true → Lib.parseIntB 64 s = .ok n) → (∀ m : Int, 0 ≤ m → m < 18 → s = decS m.toNat → n = m ∧ b = true) → K (n, b) w') : Fc Tryd.prog F_impl_readNumber #[.string (bs s)] w (.two (.int .i64) .bool) K := by
  have hpm : ∀ m : Int, 0 ≤ m → m < 18 → s = decS m.toNat → Lib.parseIntB 64 s = .ok m := fun m m0 m1 e => by
    have := parse_dec ⟨m.toNat, by omega⟩
    simp only at this
    rw [e, this, Int.toNat_of_nonneg m0]
  refine walk_impl_readNumber _ (c_ParseInt g (by omega) (fun v w1 hv q1 => ?_) (fun hno n t p w1 q1 hn => ?_))
  · refine ⟨true, fun w' => ?_, fun _ => ?_, fun e => by cases e⟩
    · rw [Sem.run_bind, eqGuard_nil_constR]
      exact run_eqlN w'
    have hv64 : I64 v := parseInt_i64 hv
    refine c_impl_decimal (g.keep q1) hv64 fun w2 q2 => eqT (hK w2 v _ (q1.trans (q2.mono q1.size)) hv64 (fun _ => hv) fun m m0 m1 e => ?_)
    have := hpm m m0 m1 e
    rw [hv] at this
    injection this with this
    subst this
    exact ⟨rfl, by rw [itoa_small m0 (by omega), e]; simp⟩
  · refine ⟨false, fun w' => ?_, fun e => (by cases e), fun _ => hK w1 n false q1 hn (fun e => by cases e) fun m m0 m1 e => absurd (hpm m m0 m1 e) (hno m)⟩
    rw [Sem.run_bind, show (eqGuard .eql 46 (.tmp 12) (.const .nilIface) (.iface t p) .nilIface).run Tryd.prog w' = .ok () w' from rfl]
    exact run_eqlH w' t p

end Go.Proofs.YtmecbbanklffgaaDoor

/- The reading of impl_ParseColouring, and its contract. No condition. -/
namespace Go.Proofs.YtmecbbanklffgaaDoor
open Go Go.RowKit Eng Mem
set_option linter.unusedVariables false
set_option maxRecDepth 100000
def B_impl_ParseColouring_10 (text0 : ByteArray) (x2 : Value) (digits14 : ByteArray) (x15 : Value) (x68 : Int) (x69 : Int) (N : (ByteArray × Value × ByteArray × Value × Int) → Int → World → Prop) (D0 : (ByteArray × Value × Value × Unit) → World → Prop) (w : World) : Prop :=
  (((decide (x69 < x68)) = true → (QAll Tryd.prog (Instr.index 9 (.string digits14) (.int .i64 x69)) (.int .u8) fun (x75_43 : Int) => (QAll Tryd.prog (Instr.fieldAt 24 x15 2) .any fun (x77_44 : Value) => (QAll Tryd.prog (Instr.indexAt 22 x77_44 (.int .i64 x69)) .any fun (x78_45 : Value) => (PrU Tryd.prog (Instr.storeAt 5 x78_45 (.int .u8 (IntKind.u8.wrap (x75_43 - (48 : Int))))) w fun w_46 => N (text0, (x2 : Value), digits14, (x15 : Value), x68) (IntKind.i64.wrap (x69 + (1 : Int))) w_46))))) ∧ ((decide (x69 < x68)) = false → D0 (text0, (x2 : Value), (x15 : Value), ()) w))

abbrev L_impl_ParseColouring_10_e0 : List Slot := [.k .str, .junk, .k .any, .junk, .junk, .junk, .junk, .junk, .junk, .junk, .junk, .junk, .junk, .junk, .junk, .k .any, .junk, .junk, .junk, .junk, .junk, .junk, .junk, .junk, .junk, .junk, .junk, .junk, .junk, .junk, .junk, .junk, .junk, .junk, .junk, .junk, .junk, .junk, .junk, .junk, .junk, .junk, .junk, .junk, .junk, .junk, .junk, .junk, .junk, .junk, .junk, .junk, .junk, .junk, .junk, .junk, .junk, .junk, .junk, .junk, .junk, .junk, .junk, .junk, .junk, .junk, .junk, .junk, .junk, .junk, .junk, .junk, .junk, .junk, .junk, .junk, .junk, .junk, .junk, .junk, .junk, .junk, .junk, .junk, .junk, .junk, .junk, .junk, .junk]

abbrev L_impl_ParseColouring_10_sp : List Slot := [.k .str, .junk, .k .any, .junk, .junk, .junk, .junk, .junk, .junk, .junk, .junk, .junk, .junk, .junk, .k .str, .k .any, .junk, .junk, .junk, .junk, .junk, .junk, .junk, .junk, .junk, .junk, .junk, .junk, .junk, .junk, .junk, .junk, .junk, .junk, .junk, .junk, .junk, .junk, .junk, .junk, .junk, .junk, .junk, .junk, .junk, .junk, .junk, .junk, .junk, .junk, .junk, .junk, .junk, .junk, .junk, .junk, .junk, .junk, .junk, .junk, .junk, .junk, .junk, .junk, .junk, .junk, .junk, .junk, .k (.int .i64), .k (.int .i64), .junk, .junk, .junk, .junk, .junk, .junk, .junk, .junk, .junk, .junk, .junk, .junk, .junk, .junk, .junk, .junk, .junk, .junk, .junk]
abbrev L_impl_ParseColouring_10_ex : List (Nat × List Slot) := [(0, L_impl_ParseColouring_10_e0)]
abbrev L_impl_ParseColouring_10_rt : List Slot := [.junk, .junk, .junk, .junk, .junk, .junk, .junk, .junk, .junk, .junk, .junk, .junk, .junk, .junk, .junk, .junk, .junk, .junk, .junk, .junk, .junk, .junk, .junk, .junk, .junk, .junk, .junk, .junk, .junk, .junk, .junk, .junk, .junk, .junk, .junk, .junk, .junk, .junk, .junk, .junk, .junk, .junk, .junk, .junk, .junk, .junk, .junk, .junk, .junk, .junk, .junk, .junk, .junk, .junk, .junk, .junk, .junk, .junk, .junk, .junk, .junk, .junk, .junk, .junk, .junk, .junk, .junk, .junk, .junk, .junk, .junk, .junk, .junk, .junk, .junk, .junk, .junk, .junk, .junk, .junk, .junk, .junk, .junk, .junk, .junk, .junk, .junk, .junk, .junk]

def L_impl_ParseColouring_10_b (Φ : Post) (u : (ByteArray × Value × ByteArray × Value × Int)) (N : (ByteArray × Value × ByteArray × Value × Int) → Int → World → Prop) (s : Int) (w : World) : Prop :=
  B_impl_ParseColouring_10 u.1 u.2.1 u.2.2.1 u.2.2.2.1 u.2.2.2.2 s N (fun v w => ∀ j : Nat → Value, Φ (.exit 0) (mkT j 0 L_impl_ParseColouring_10_e0 v) w) w

theorem L_impl_ParseColouring_10_eq (j : Nat → Value) (u : (ByteArray × Value × ByteArray × Value × Int)) (s : Int) (N : (ByteArray × Value × ByteArray × Value × Int) → Int → World → Prop) (D0 : (ByteArray × Value × Value × Unit) → World → Prop) (R : (Unit) → World → Prop) (w : World) :
    W Tryd.prog ty (fun _ _ _ _ => False) (loopAt Tryd.f5 10) (loopPost L_impl_ParseColouring_10_sp [(0, (⟨L_impl_ParseColouring_10_e0, D0⟩ : Door))] ⟨L_impl_ParseColouring_10_rt, R⟩ (fun v w => N ((fun v => (v.1, v.2.1, v.2.2.1, v.2.2.2.1, v.2.2.2.2.1)) v) ((fun v => v.2.2.2.2.2.1) v) w)) (mkT j 0 L_impl_ParseColouring_10_sp ((fun u s => (u.1, u.2.1, u.2.2.1, u.2.2.2.1, u.2.2.2.2, s, ())) u s)) w =
    B_impl_ParseColouring_10 u.1 u.2.1 u.2.2.1 u.2.2.2.1 u.2.2.2.2 s N D0 w := by
  kernel_rfl

def O_impl_ParseColouring_1 : Code → Post → List SV → World → Prop :=
  orc 10 (loopAt Tryd.f5 10) L_impl_ParseColouring_10_sp (fun Φ fr w => LOOP (U := (ByteArray × Value × ByteArray × Value × Int)) (S := Int) ((fun v => (v.1, v.2.1, v.2.2.1, v.2.2.2.1, v.2.2.2.2.1)) (extT L_impl_ParseColouring_10_sp fr)) (L_impl_ParseColouring_10_b Φ ((fun v => (v.1, v.2.1, v.2.2.1, v.2.2.2.1, v.2.2.2.2.1)) (extT L_impl_ParseColouring_10_sp fr))) ((fun v => v.2.2.2.2.2.1) (extT L_impl_ParseColouring_10_sp fr)) w) (fun _ _ _ _ => False)

theorem O_impl_ParseColouring_1_ok : Sound Tryd.prog O_impl_ParseColouring_1 :=
  orc_ok (sound_none _) fun Φ fr w hs h => loop_ok (ty := ty) follows (sound_none _) L_impl_ParseColouring_10_sp (fun v => (v.1, v.2.1, v.2.2.1, v.2.2.2.1, v.2.2.2.2.1)) (fun v => v.2.2.2.2.2.1) (fun u s => (u.1, u.2.1, u.2.2.1, u.2.2.2.1, u.2.2.2.2, s, ())) (fun _ => rfl) L_impl_ParseColouring_10_ex L_impl_ParseColouring_10_rt (body := L_impl_ParseColouring_10_b Φ) (fun j u s w N hb => by
    have e := L_impl_ParseColouring_10_eq j u s N (doorOf Φ (.exit 0) L_impl_ParseColouring_10_e0).D (doorOf Φ .ret L_impl_ParseColouring_10_rt).D w
    exact Eq.mpr e hb) hs h

def V_impl_ParseColouring (text0 : ByteArray) (w : World) (K : (Value × Int) → World → Prop) : Prop :=
  (Pr Tryd.prog (Instr.alloc 24 true (.tuple #[])) w (.one .any) fun (x2_2 : Value) w_1 => (Fc Tryd.prog 8 #[(.string text0), (.string (⟨#[58]⟩))] w_1 (.three .str .str .bool) fun (x19_4 : ByteArray × ByteArray × Bool) w_3 => (Fc Tryd.prog 8 #[(.string x19_4.1), (.string (⟨#[44]⟩))] w_3 (.three .str .str .bool) fun (x25_6 : ByteArray × ByteArray × Bool) w_5 => (Fc Tryd.prog 9 #[(.string x25_6.1)] w_5 (.two (.int .i64) .bool) fun (x31_8 : Int × Bool) w_7 => (Fc Tryd.prog 9 #[(.string x25_6.2.1)] w_7 (.two (.int .i64) .bool) fun (x36_10 : Int × Bool) w_9 => (Fc Tryd.prog 10 #[(.string x19_4.2.1), (.string (⟨#[44]⟩)), (.string (⟨#[]⟩))] w_9 (.one .str) fun (x40_12 : ByteArray) w_11 => (((!x31_8.2) = true → (Pr Tryd.prog (Instr.build 24 #[]) w_11 (.one .any) fun (x63_14 : Value) w_13 => (PrU Tryd.prog (Instr.storeAt 24 x2_2 x63_14) w_13 fun w_15 => (QSub Tryd.prog (Instr.loadAt 24 x2_2) w_15 .any fun (r_17 : Value) => K ((r_17 : Value), (6 : Int)) w_15)))) ∧ ((!x31_8.2) = false → (((!x36_10.2) = true → (Pr Tryd.prog (Instr.build 24 #[]) w_11 (.one .any) fun (x63_19 : Value) w_18 => (PrU Tryd.prog (Instr.storeAt 24 x2_2 x63_19) w_18 fun w_20 => (QSub Tryd.prog (Instr.loadAt 24 x2_2) w_20 .any fun (r_22 : Value) => K ((r_22 : Value), (6 : Int)) w_20)))) ∧ ((!x36_10.2) = false → (Fc Tryd.prog 11 #[(.int .i64 x31_8.1), (.int .i64 x36_10.1)] w_11 (.one .bool) fun (x50_24 : Bool) w_23 => (((!x50_24) = true → (Pr Tryd.prog (Instr.build 24 #[]) w_23 (.one .any) fun (x63_26 : Value) w_25 => (PrU Tryd.prog (Instr.storeAt 24 x2_2 x63_26) w_25 fun w_27 => (QSub Tryd.prog (Instr.loadAt 24 x2_2) w_27 .any fun (r_29 : Value) => K ((r_29 : Value), (6 : Int)) w_27)))) ∧ ((!x50_24) = false → (QAll Tryd.prog (Builtin.len_ #[9] 3 #[(.string x40_12)]) (.int .i64) fun (x55_30 : Int) => ((2 : Int) ≠ 0 ∧ (((x55_30 != (IntKind.i64.wrap (Int.tdiv (IntKind.i64.wrap (x31_8.1 * (IntKind.i64.wrap (x31_8.1 - (1 : Int))))) (2 : Int)))) = true → (Pr Tryd.prog (Instr.build 24 #[]) w_23 (.one .any) fun (x63_32 : Value) w_31 => (PrU Tryd.prog (Instr.storeAt 24 x2_2 x63_32) w_31 fun w_33 => (QSub Tryd.prog (Instr.loadAt 24 x2_2) w_33 .any fun (r_35 : Value) => K ((r_35 : Value), (6 : Int)) w_33)))) ∧ ((x55_30 != (IntKind.i64.wrap (Int.tdiv (IntKind.i64.wrap (x31_8.1 * (IntKind.i64.wrap (x31_8.1 - (1 : Int))))) (2 : Int)))) = false → (Pr Tryd.prog (Instr.build 24 #[(0, (.int .i64 x31_8.1)), (1, (.int .i64 x36_10.1))]) w_23 (.one .any) fun (x66_37 : Value) w_36 => (Pr Tryd.prog (Instr.alloc 24 true (.tuple #[])) w_36 (.one .any) fun (x15_39 : Value) w_38 => (PrU Tryd.prog (Instr.storeAt 24 x15_39 x66_37) w_38 fun w_40 => (QAll Tryd.prog (Builtin.len_ #[9] 3 #[(.string x40_12)]) (.int .i64) fun (x68_42 : Int) => (At (loopAt Tryd.f5 10) (loopAt Tryd.f5 10) (LOOP (U := (ByteArray × Value × ByteArray × Value × Int)) (S := Int) (text0, (x2_2 : Value), x40_12, (x15_39 : Value), x68_42) (fun N_70 s_71 w_72 => B_impl_ParseColouring_10 text0 (x2_2 : Value) x40_12 (x15_39 : Value) x68_42 s_71 N_70 (fun (v_48 : (ByteArray × Value × Value × Unit)) w_49 => ∀ _j_50 : Nat → Value, (Fc Tryd.prog 12 #[v_48.2.2.1] w_49 (.one .bool) fun (x80_52 : Bool) w_51 => (((!x80_52) = true → (Pr Tryd.prog (Instr.build 24 #[]) w_51 (.one .any) fun (x87_54 : Value) w_53 => (PrU Tryd.prog (Instr.storeAt 24 v_48.2.1 x87_54) w_53 fun w_55 => (QSub Tryd.prog (Instr.loadAt 24 v_48.2.1) w_55 .any fun (r_57 : Value) => K ((r_57 : Value), (6 : Int)) w_55)))) ∧ ((!x80_52) = false → (Fc Tryd.prog 13 #[v_48.2.2.1] w_51 (.one .str) fun (x83_59 : ByteArray) w_58 => (QAll Tryd.prog (do eqGuard .neq 9 (.tmp 83) (.tmp 84) (.string x83_59) (.string v_48.1); binOp .neq 9 (.string x83_59) (.string v_48.1)) .bool fun (x85_60 : Bool) => ((x85_60 = true → (Pr Tryd.prog (Instr.build 24 #[]) w_58 (.one .any) fun (x87_62 : Value) w_61 => (PrU Tryd.prog (Instr.storeAt 24 v_48.2.1 x87_62) w_61 fun w_63 => (QSub Tryd.prog (Instr.loadAt 24 v_48.2.1) w_63 .any fun (r_65 : Value) => K ((r_65 : Value), (6 : Int)) w_63)))) ∧ (x85_60 = false → (QSub Tryd.prog (Instr.loadAt 24 v_48.2.2.1) w_58 .any fun (x88_66 : Value) => (PrU Tryd.prog (Instr.storeAt 24 v_48.2.1 x88_66) w_58 fun w_67 => (QSub Tryd.prog (Instr.loadAt 24 v_48.2.1) w_67 .any fun (r_69 : Value) => K ((r_69 : Value), (0 : Int)) w_67))))))))))) w_72) (0 : Int) w_40)))))))))))))))))))))))

theorem eq_impl_ParseColouring (text0 : ByteArray) (w : World) (K : (Value × Int) → World → Prop) :
    W Tryd.prog ty O_impl_ParseColouring_1 (bodyOf Tryd.f5) (fnPost Tryd.prog Tryd.f5.results.toList (.two .any (.int .i64)) K) (frame0 [(.string text0)] 89) w = V_impl_ParseColouring text0 w K := by
  kernel_rfl

theorem body_impl_ParseColouring : Tryd.f5.body = some (bodyOf Tryd.f5) := by kernel_rfl
theorem name_impl_ParseColouring : (Tryd.f5.name == "runtime.NumGoroutine") = false := by kernel_rfl

theorem walk_impl_ParseColouring (text0 : ByteArray) {w : World} {K : (Value × Int) → World → Prop} (h : V_impl_ParseColouring text0 w K) : Fc Tryd.prog 5 #[(.string text0)] w (.two .any (.int .i64)) K :=
  fn_ok follows O_impl_ParseColouring_1_ok Tryd.func5 name_impl_ParseColouring body_impl_ParseColouring Tryd.ntmps5 [(.string text0)] (Eq.mpr (eq_impl_ParseColouring text0 w K) h)

-- uses S9PrsR
theorem cut_len (s sep : BL) : (Lib.cut s sep).1.length ≤ s.length ∧ (Lib.cut s sep).2.1.length ≤ s.length := by
  unfold Lib.cut; split <;> simp <;> omega
theorem c_impl_ParseColouring {t : BL} {w : World} {K : Value × Int → World → Prop} (g : Gl w) (hl : t.length ≤ 1048576) (hK : ∀ w' c m, Below w.heap.size w w' → c.Ok → Res t c m → K (c.val, m) w') :
    Fc Tryd.prog F_impl_ParseColouring #[.string (bs t)] w (.two .any (.int .i64)) K := by
  refine walk_impl_ParseColouring _ (c_alloc fun p w1 q1 hv => c_Cut (sep := [58]) (g.keep q1) (by omega) fun w2 q2 => ?_)
  have c1 := cut_len t [58]
  have c2 := cut_len (Lib.cut t [58]).1 [44]
  have g2 := (g.keep q1).keep q2
  refine c_Cut (sep := [44]) g2 (by omega) fun w3 q3 => c_impl_readNumber (g2.keep q3) (by omega) fun w4 n one q4 hn hone hon => c_impl_readNumber ((g2.keep q3).keep q4) (by omega) fun w5 k two q5 hk htwo htw => c_ReplaceAll (old := [44]) (new := []) (((g2.keep q3).keep q4).keep q5) (by omega) (by simp) (by simp; omega) fun w6 q6 => ?_
  have g6 := (((g2.keep q3).keep q4).keep q5).keep q6
  have hv6 := ((((hv.keep q2).keep q3).keep q4).keep q5).keep q6
  have p2 := q1.trans (q2.mono q1.size)
  have p3 := p2.trans (q3.mono p2.size)
  have p4 := p3.trans (q4.mono p3.size)
  have p5 := p4.trans (q5.mono p4.size)
  have p6 := p5.trans (q6.mono p5.size)
  have comp : ∀ c' : Col, c'.Ok → c'.Is → t = textT c' → n = c'.n ∧ one = true ∧ k = c'.k ∧ two = true ∧ Lib.replaceAll (Lib.cut t [58]).2.1 [44] [] = (List.range (tri (c'.n.toNat - 1))).map fun i => dg (c'.e i) := by
    intro c' ho hi e
    have e1 := cut_text hi
    have e2 := cut_head hi
    rw [← e] at e1
    rw [e1] at hon htw ⊢
    simp only at hon htw ⊢
    rw [e2] at hon htw
    simp only at hon htw
    have f := fin_n hi
    have a := hon c'.n (by have := hi.1; omega) (by have := hi.2.1; omega) rfl
    have b := htw c'.k (by have := hi.2.2.1; omega) (by have := hi.2.2.2.1; omega) rfl
    exact ⟨a.1, a.2, b.1, b.2, repl_tail hi ho⟩
  generalize Lib.replaceAll (Lib.cut t [58]).2.1 [44] [] = d at comp ⊢
  have bad : ∀ {w' : World}, Below w.heap.size w w' → CVar w.heap.size w' p → (∀ c' : Col, c'.Ok → c'.Is → t ≠ textT c') → Pr Tryd.prog (Instr.build tC #[]) w' (.one .any) fun x w0 => PrU Tryd.prog (Instr.storeAt tC p x) w0 fun w1 => QSub Tryd.prog (Instr.loadAt tC p) w1 .any fun r => K (r, 6) w1 := fun q hv no =>
    c_none (K := fun r w' => K (r, 6) w') hv q.size fun w' q' => hK w' col0 6 (q.trans q') col0_ok (.inr ⟨rfl, rfl, no⟩)
  refine ⟨fun e => bad p6 hv6 fun c' ho hi ec => ?_, fun e1 => ⟨fun e => bad p6 hv6 fun c' ho hi ec => ?_, fun e2 => c_impl_areSizes _ _ ⟨fun e => bad p6 hv6 fun c' ho hi ec => ?_, fun e3 => ?_⟩⟩⟩
  · have := (comp c' ho hi ec).2.1
    rw [this] at e; cases e
  · have := (comp c' ho hi ec).2.2.2.1
    rw [this] at e; cases e
  · have h := notd_t e
    obtain ⟨en, _, ek, _⟩ := comp c' ho hi ec
    exact h (by rw [en, ek]; exact ⟨hi.1, hi.2.1, hi.2.2.1, hi.2.2.2.1⟩)
  have hs : Sizes n k := notd_f e3
  obtain ⟨n1, n17, k1, k4⟩ := hs
  have hed := edges_le n1 n17
  refine lenT ⟨by omega, ?_⟩
  rw [wedges (by omega) n17]
  refine ⟨fun e => bad p6 hv6 fun c' ho hi ec => ne_t e ?_, fun e4 => ?_⟩
  · obtain ⟨en, _, _, _, ed⟩ := comp c' ho hi ec
    have ht := tri_edges ⟨c'.n.toNat, (fin_n hi).1⟩ (by have := hi.1; simp only; omega)
    simp only at ht
    rw [show ((c'.n.toNat : Nat) : Int) = c'.n from by have := hi.1; omega] at ht
    rw [ed, en, ht]; simp
  have hdl : (d.length : Int) = edgesOf n := ne_f e4
  refine build2 (allocA yC fun b w7 n7 => stA0 yC n7.at_ (by simp [Col.cells, zC, zA]) (by simp [Col.cells, zC, zA]) (Col.cells_one _) fun w8 m8 s8 h8 => lenT ?_)
  have e7 := n7.here; have s7 := n7.size; have z6 := p6.size
  have hpb : p ≠ ptr b 0 := hv6.ne (Nat.le_of_eq e7.symm)
  have S : Rd w w8 p b n k [] := ⟨(p6.trans (n7.below.mono p6.size)).trans (m8.below (by omega) (by simp; omega)), (hv6.keep n7.below).mod m8 hpb, h8, by omega, hpb⟩
  refine lp (fun i w' => ∃ q : Nat, i = (q : Int) ∧ q ≤ d.length ∧ Rd w w' p b n k (d.take q)) (fun i _ => ((d.length : Int) - i).toNat) ⟨0, rfl, Nat.zero_le _, S⟩ ?_
  rintro i w9 N ⟨q, ei, hq, S9⟩ hN
  subst ei
  unfold B_impl_ParseColouring_10
  dsimp only
  refine ⟨fun h => ?_, fun h _ => ?_⟩
  · have h : (q : Int) < d.length := dec_t h
    have hql : q < d.length := by omega
    refine ixT (by omega) h fun x hx => ?_
    rw [Int.toNat_natCast, List.getElem?_eq_getElem hql] at hx
    obtain rfl := Option.some.inj hx
    have hun : IntKind.u8.wrap ((d[q].toNat : Int) - 48) = un d[q] := rfl
    rw [hun]
    refine fldp f2 (S9.put (by simp; omega) (by simp; omega) fun w10 m10 S10 => ?_)
    rw [Mem.wrap_small (n := (q : Int) + 1) (by omega) (by omega)]
    exact hN _ _ ⟨q + 1, by simp, by omega, by rw [List.take_add_one, List.getElem?_eq_getElem hql]; exact S10⟩ (by omega)
  · have h : ¬ (q : Int) < d.length := dec_f h
    have hqd : q = d.length := by omega
    subst hqd
    rw [List.take_of_length_le (Nat.le_refl _)] at S9
    have hX : (colX n k d).Ok := colX_ok (by omega) ⟨by omega, by omega⟩ ⟨by omega, by omega⟩
    have self : ∀ c' : Col, c'.Ok → c'.Is → t = textT c' → colX n k d = c' := fun c' ho hi ec => by
      obtain ⟨en, _, ek, _, ed⟩ := comp c' ho hi ec
      rw [en, ek, ed]
      exact colX_self hi ho
    refine c_impl_Colouring_isColouring hX S9.at fun w10 q10 => ?_
    have S10 := S9.keep q10
    refine ⟨fun e => bad S10.bel S10.var fun c' ho hi ec => notd_t e (by rw [self c' ho hi ec]; exact hi), fun e => ?_⟩
    have hi := notd_f e
    refine c_impl_Colouring_text hX hi S10.at (g.keep S10.bel) fun w11 q11 => neT ?_
    have S11 := S10.keep q11
    refine ⟨fun e => bad S11.bel S11.var fun c' ho hi' ec => notd_t e (by rw [self c' ho hi' ec]; exact ec.symm), fun e => ?_⟩
    have he := notd_f e
    exact col_all hX S11.at (c_ret (K := fun r w' => K (r, 0) w') hX S11.var S11.bel.size fun w' q' => hK w' _ 0 (S11.bel.trans q') hX (.inl ⟨rfl, hX, hi, he.symm⟩))

end Go.Proofs.YtmecbbanklffgaaDoor

/- The reading of spec_l01Number, and its contract. No condition. -/
namespace Go.Proofs.YtmecbbanklffgaaDoor
open Go Go.RowKit Eng Mem
set_option linter.unusedVariables false
set_option maxRecDepth 100000
def B_spec_l01Number_5 (s0 : ByteArray) (n3 : Int) (i4 : Int) (N : ByteArray → (Int × Int) → World → Prop) (D0 : (Int × Unit) → World → Prop) (R : (Int × Unit) → World → Prop) (w : World) : Prop :=
  (QAll Tryd.prog (Builtin.len_ #[9] 3 #[(.string s0)]) (.int .i64) fun (x25_5 : Int) => (((decide (i4 < x25_5)) = true → (QAll Tryd.prog (Instr.index 9 (.string s0) (.int .i64 i4)) (.int .u8) fun (x31_6 : Int) => (((decide (x31_6 < (48 : Int))) = true → R ((-1 : Int), ()) w) ∧ ((decide (x31_6 < (48 : Int))) = false → (QAll Tryd.prog (Instr.index 9 (.string s0) (.int .i64 i4)) (.int .u8) fun (x36_7 : Int) => (((decide (x36_7 > (57 : Int))) = true → R ((-1 : Int), ()) w) ∧ ((decide (x36_7 > (57 : Int))) = false → (QAll Tryd.prog (Instr.index 9 (.string s0) (.int .i64 i4)) (.int .u8) fun (x43_8 : Int) => (QAll Tryd.prog (convert 5 2 (.int .u8 (IntKind.u8.wrap (x43_8 - (48 : Int))))) (.int .i64) fun (x45_9 : Int) => N s0 ((IntKind.i64.wrap ((IntKind.i64.wrap (n3 * (10 : Int))) + x45_9)), (IntKind.i64.wrap (i4 + (1 : Int)))) w))))))))) ∧ ((decide (i4 < x25_5)) = false → D0 (n3, ()) w)))

abbrev L_spec_l01Number_5_e0 : List Slot := [.junk, .junk, .junk, .k (.int .i64), .junk, .junk, .junk, .junk, .junk, .junk, .junk, .junk, .junk, .junk, .junk, .junk, .junk, .junk, .junk, .junk, .junk, .junk, .junk, .junk, .junk, .junk, .junk, .junk, .junk, .junk, .junk, .junk, .junk, .junk, .junk, .junk, .junk, .junk, .junk, .junk, .junk, .junk, .junk, .junk, .junk, .junk, .junk, .junk]

abbrev L_spec_l01Number_5_sp : List Slot := [.k .str, .junk, .junk, .k (.int .i64), .k (.int .i64), .junk, .junk, .junk, .junk, .junk, .junk, .junk, .junk, .junk, .junk, .junk, .junk, .junk, .junk, .junk, .junk, .junk, .junk, .junk, .junk, .junk, .junk, .junk, .junk, .junk, .junk, .junk, .junk, .junk, .junk, .junk, .junk, .junk, .junk, .junk, .junk, .junk, .junk, .junk, .junk, .junk, .junk, .junk]
abbrev L_spec_l01Number_5_ex : List (Nat × List Slot) := [(0, L_spec_l01Number_5_e0)]
abbrev L_spec_l01Number_5_rt : List Slot := [.junk, .junk, .k (.int .i64), .junk, .junk, .junk, .junk, .junk, .junk, .junk, .junk, .junk, .junk, .junk, .junk, .junk, .junk, .junk, .junk, .junk, .junk, .junk, .junk, .junk, .junk, .junk, .junk, .junk, .junk, .junk, .junk, .junk, .junk, .junk, .junk, .junk, .junk, .junk, .junk, .junk, .junk, .junk, .junk, .junk, .junk, .junk, .junk, .junk]

def L_spec_l01Number_5_b (Φ : Post) (u : ByteArray) (N : ByteArray → (Int × Int) → World → Prop) (s : (Int × Int)) (w : World) : Prop :=
  B_spec_l01Number_5 u s.1 s.2 N (fun v w => ∀ j : Nat → Value, Φ (.exit 0) (mkT j 0 L_spec_l01Number_5_e0 v) w) (fun v w => ∀ j : Nat → Value, Φ .ret (mkT j 0 L_spec_l01Number_5_rt v) w) w

theorem L_spec_l01Number_5_eq (j : Nat → Value) (u : ByteArray) (s : (Int × Int)) (N : ByteArray → (Int × Int) → World → Prop) (D0 : (Int × Unit) → World → Prop) (R : (Int × Unit) → World → Prop) (w : World) :
    W Tryd.prog ty (fun _ _ _ _ => False) (loopAt Tryd.f16 5) (loopPost L_spec_l01Number_5_sp [(0, (⟨L_spec_l01Number_5_e0, D0⟩ : Door))] ⟨L_spec_l01Number_5_rt, R⟩ (fun v w => N ((fun v => v.1) v) ((fun v => (v.2.1, v.2.2.1)) v) w)) (mkT j 0 L_spec_l01Number_5_sp ((fun u s => (u, s.1, s.2, ())) u s)) w =
    B_spec_l01Number_5 u s.1 s.2 N D0 R w := by
  kernel_rfl

def O_spec_l01Number_1 : Code → Post → List SV → World → Prop :=
  orc 5 (loopAt Tryd.f16 5) L_spec_l01Number_5_sp (fun Φ fr w => LOOP (U := ByteArray) (S := (Int × Int)) ((fun v => v.1) (extT L_spec_l01Number_5_sp fr)) (L_spec_l01Number_5_b Φ ((fun v => v.1) (extT L_spec_l01Number_5_sp fr))) ((fun v => (v.2.1, v.2.2.1)) (extT L_spec_l01Number_5_sp fr)) w) (fun _ _ _ _ => False)

theorem O_spec_l01Number_1_ok : Sound Tryd.prog O_spec_l01Number_1 :=
  orc_ok (sound_none _) fun Φ fr w hs h => loop_ok (ty := ty) follows (sound_none _) L_spec_l01Number_5_sp (fun v => v.1) (fun v => (v.2.1, v.2.2.1)) (fun u s => (u, s.1, s.2, ())) (fun _ => rfl) L_spec_l01Number_5_ex L_spec_l01Number_5_rt (body := L_spec_l01Number_5_b Φ) (fun j u s w N hb => by
    have e := L_spec_l01Number_5_eq j u s N (doorOf Φ (.exit 0) L_spec_l01Number_5_e0).D (doorOf Φ .ret L_spec_l01Number_5_rt).D w
    exact Eq.mpr e hb) hs h

def V_spec_l01Number (s0 : ByteArray) (w : World) (K : Int → World → Prop) : Prop :=
  (QAll Tryd.prog (Builtin.len_ #[9] 3 #[(.string s0)]) (.int .i64) fun (x6_1 : Int) => (((x6_1 == (0 : Int)) = true → K (-1 : Int) w) ∧ ((x6_1 == (0 : Int)) = false → (QAll Tryd.prog (Builtin.len_ #[9] 3 #[(.string s0)]) (.int .i64) fun (x10_2 : Int) => (((decide (x10_2 > (9 : Int))) = true → K (-1 : Int) w) ∧ ((decide (x10_2 > (9 : Int))) = false → (QAll Tryd.prog (Builtin.len_ #[9] 3 #[(.string s0)]) (.int .i64) fun (x15_3 : Int) => (((decide (x15_3 > (1 : Int))) = true → (QAll Tryd.prog (Instr.index 9 (.string s0) (.int .i64 (0 : Int))) (.int .u8) fun (x19_4 : Int) => (((x19_4 == (48 : Int)) = true → K (-1 : Int) w) ∧ ((x19_4 == (48 : Int)) = false → (At (loopAt Tryd.f16 5) (loopAt Tryd.f16 5) (LOOP (U := ByteArray) (S := (Int × Int)) s0 (fun N_16 s_17 w_18 => B_spec_l01Number_5 s0 s_17.1 s_17.2 N_16 (fun (v_10 : (Int × Unit)) w_11 => ∀ _j_12 : Nat → Value, K v_10.1 w_11) (fun (v_13 : (Int × Unit)) w_14 => ∀ _j_15 : Nat → Value, K v_13.1 w_14) w_18) ((0 : Int), (0 : Int)) w)))))) ∧ ((decide (x15_3 > (1 : Int))) = false → (At (loopAt Tryd.f16 5) (loopAt Tryd.f16 5) (LOOP (U := ByteArray) (S := (Int × Int)) s0 (fun N_25 s_26 w_27 => B_spec_l01Number_5 s0 s_26.1 s_26.2 N_25 (fun (v_19 : (Int × Unit)) w_20 => ∀ _j_21 : Nat → Value, K v_19.1 w_20) (fun (v_22 : (Int × Unit)) w_23 => ∀ _j_24 : Nat → Value, K v_22.1 w_23) w_27) ((0 : Int), (0 : Int)) w)))))))))))

theorem eq_spec_l01Number (s0 : ByteArray) (w : World) (K : Int → World → Prop) :
    W Tryd.prog ty O_spec_l01Number_1 (bodyOf Tryd.f16) (fnPost Tryd.prog Tryd.f16.results.toList (.one (.int .i64)) K) (frame0 [(.string s0)] 48) w = V_spec_l01Number s0 w K := by
  kernel_rfl

theorem body_spec_l01Number : Tryd.f16.body = some (bodyOf Tryd.f16) := by kernel_rfl
theorem name_spec_l01Number : (Tryd.f16.name == "runtime.NumGoroutine") = false := by kernel_rfl

theorem walk_spec_l01Number (s0 : ByteArray) {w : World} {K : Int → World → Prop} (h : V_spec_l01Number s0 w K) : Fc Tryd.prog 16 #[(.string s0)] w (.one (.int .i64)) K :=
  fn_ok follows O_spec_l01Number_1_ok Tryd.func16 name_spec_l01Number body_spec_l01Number Tryd.ntmps16 [(.string s0)] (Eq.mpr (eq_spec_l01Number s0 w K) h)

-- uses S9PrsM
theorem c_spec_l01Number {s : BL} {w : World} {K : Int → World → Prop} (hl : s.length ≤ 1048576) (hK : K (numB s) w) : Fc Tryd.prog F_spec_l01Number #[.string (bs s)] w (.one (.int .i64)) K := by
  have bad : (s.length = 0 ∨ 9 < s.length ∨ (1 < s.length ∧ s.head? = some 48)) → K (-1) w := fun h => by
    rw [numB, if_pos h] at hK; exact hK
  have body : ¬ (s.length = 0 ∨ 9 < s.length ∨ (1 < s.length ∧ s.head? = some 48)) → At (loopAt Tryd.f16 5) (loopAt Tryd.f16 5) (LOOP (U := ByteArray) (S := (Int × Int)) (bs s) (fun N t w' => B_spec_l01Number_5 (bs s) t.1 t.2 N (fun v w' => ∀ _j : Nat → Value, K v.1 w') (fun v w' => ∀ _j : Nat → Value, K v.1 w') w') (0, 0) w) := by
    intro hc
    rw [numB, if_neg hc] at hK
    refine lp (fun t w' => w' = w ∧ ∃ i : Nat, t.2 = (i : Int) ∧ i ≤ s.length ∧ numF 0 s = numF t.1 (s.drop i) ∧ 0 ≤ t.1 ∧ t.1 < 10 ^ i) (fun t _ => ((s.length : Int) - t.2).toNat) ⟨rfl, 0, rfl, Nat.zero_le _, rfl, by simp, by simp⟩ ?_
    rintro ⟨acc, i_⟩ w1 N ⟨ew, i, ei, hi, hf, a0, a1⟩ hN
    simp only at ei hf a0 a1
    subst ei; subst ew
    unfold B_spec_l01Number_5
    refine lenT ⟨fun h => ?_, fun h j => ?_⟩
    · have h : (i : Int) < s.length := dec_t h
      have hlt : i < s.length := by omega
      have hd : s.drop i = s[i] :: s.drop (i + 1) := List.drop_eq_getElem_cons hlt
      rw [hd, numF] at hf
      have p9 : (10 : Int) ^ i ≤ 10 ^ 8 := by
        have : (10 : Nat) ^ i ≤ 10 ^ 8 := Nat.pow_le_pow_right (by omega) (by omega)
        exact_mod_cast this
      have p9 : acc < 100000000 := by
        have : (10 : Int) ^ 8 = 100000000 := by decide
        omega
      have hgo : ∀ x : UInt8, s[((i : Nat) : Int).toNat]? = some x → x = s[i] := fun x hx => by
        rw [Int.toNat_natCast, List.getElem?_eq_getElem hlt] at hx
        exact (Option.some.inj hx).symm
      refine ixT (by omega) h fun x hx => ?_
      obtain rfl := hgo x hx
      refine ⟨fun e _ => ?_, fun e => ?_⟩
      · have e := dec_t e
        rw [if_neg (by omega)] at hf
        rw [hf] at hK; exact hK
      have e := dec_f e
      refine ixT (by omega) h fun x hx => ?_
      obtain rfl := hgo x hx
      refine ⟨fun e' _ => ?_, fun e' => ?_⟩
      · have e' := dec_t e'
        rw [if_neg (by omega)] at hf
        rw [hf] at hK; exact hK
      have e' := dec_f e'
      rw [if_pos ⟨by omega, by omega⟩] at hf
      refine ixT (by omega) h fun x hx => ?_
      obtain rfl := hgo x hx
      rw [Mem.wrap_u8 (by omega) (by omega)]
      refine cvt (by rw [Tryd.underlying5]; rfl) Tryd.underlyingTI ?_
      rw [Mem.wrap_small (n := (s[i].toNat : Int) - 48) (by omega) (by omega), Mem.wrap_small (n := acc * 10) (by omega) (by omega), Mem.wrap_small (n := acc * 10 + ((s[i].toNat : Int) - 48)) (by omega) (by omega), Mem.wrap_small (n := (i : Int) + 1) (by omega) (by omega)]
      refine hN _ _ ⟨rfl, i + 1, rfl, by omega, hf, by simp only; omega, ?_⟩ (by simp only; omega)
      simp only
      rw [Int.pow_succ]
      omega
    · have h : ¬ (i : Int) < s.length := dec_f h
      rw [List.drop_eq_nil_of_le (by omega), numF] at hf
      rw [hf] at hK; exact hK
  refine walk_spec_l01Number _ (lenT ⟨fun h => bad (.inl (by have := eq_t h; omega)), fun h0 => lenT ⟨fun h => bad (.inr (.inl (by have := dec_t h; omega))), fun h9 => lenT ⟨fun h1 => ?_, fun h1 => ?_⟩⟩⟩)
  · have h0 := eq_f h0; have h9 := dec_f h9; have h1 := dec_t h1
    refine ixT (by omega) (by omega) fun x hx => ⟨fun e => bad ?_, fun e => body ?_⟩
    · have e := eq_t e
      refine .inr (.inr ⟨by omega, ?_⟩)
      rw [List.head?_eq_getElem?]
      rw [show (0 : Int).toNat = 0 from rfl] at hx
      rw [hx, u8_of (x := x) (n := 48) (by omega)]; rfl
    · have e := eq_f e
      rintro (h | h | ⟨_, h⟩)
      · omega
      · omega
      · rw [List.head?_eq_getElem?] at h
        rw [show (0 : Int).toNat = 0 from rfl, h] at hx
        have : x = 48 := (Option.some.inj hx).symm
        subst this
        exact e rfl
  · have h0 := eq_f h0; have h9 := dec_f h9; have h1 := dec_f h1
    exact body (by rintro (h | h | ⟨h, _⟩) <;> omega)

end Go.Proofs.YtmecbbanklffgaaDoor

/- The reading of spec_l01Split, and its contract. No condition. -/
namespace Go.Proofs.YtmecbbanklffgaaDoor
open Go Go.RowKit Eng Mem
set_option linter.unusedVariables false
set_option maxRecDepth 100000
def B_spec_l01Split_4 (s0 : ByteArray) (by1 : Int) (out5 : Value) (at6 : Int) (i7 : Int) (N : (ByteArray × Int) → (Value × Int × Int) → World → Prop) (D0 : (ByteArray × Value × Int × Unit) → World → Prop) (w : World) : Prop :=
  (QAll Tryd.prog (Builtin.len_ #[9] 3 #[(.string s0)]) (.int .i64) fun (x11_3 : Int) => (((decide (i7 < x11_3)) = true → (QAll Tryd.prog (Instr.index 9 (.string s0) (.int .i64 i7)) (.int .u8) fun (x17_4 : Int) => (((x17_4 == by1) = true → (QAll Tryd.prog (Instr.sliceAt 9 (.string s0) (some (.int .i64 at6)) (some (.int .i64 i7)) none) .str fun (x24_5 : ByteArray) => (Pr Tryd.prog (Instr.buildSlice 40 1 #[(0, (.string x24_5))]) w (.one .any) fun (x25_7 : Value) w_6 => (Pr Tryd.prog (Builtin.append_ #[40, 40] 40 #[out5, x25_7]) w_6 (.one .any) fun (x26_9 : Value) w_8 => N (s0, by1) ((x26_9 : Value), (IntKind.i64.wrap (i7 + (1 : Int))), (IntKind.i64.wrap (i7 + (1 : Int)))) w_8)))) ∧ ((x17_4 == by1) = false → N (s0, by1) ((out5 : Value), at6, (IntKind.i64.wrap (i7 + (1 : Int)))) w)))) ∧ ((decide (i7 < x11_3)) = false → D0 (s0, (out5 : Value), at6, ()) w)))

abbrev L_spec_l01Split_4_e0 : List Slot := [.k .str, .junk, .junk, .junk, .junk, .k .any, .k (.int .i64), .junk, .junk, .junk, .junk, .junk, .junk, .junk, .junk, .junk, .junk, .junk, .junk, .junk, .junk, .junk, .junk, .junk, .junk, .junk, .junk, .junk, .junk, .junk, .junk, .junk, .junk, .junk, .junk]

abbrev L_spec_l01Split_4_sp : List Slot := [.k .str, .k (.int .u8), .junk, .junk, .junk, .k .any, .k (.int .i64), .k (.int .i64), .junk, .junk, .junk, .junk, .junk, .junk, .junk, .junk, .junk, .junk, .junk, .junk, .junk, .junk, .junk, .junk, .junk, .junk, .junk, .junk, .junk, .junk, .junk, .junk, .junk, .junk, .junk]
abbrev L_spec_l01Split_4_ex : List (Nat × List Slot) := [(0, L_spec_l01Split_4_e0)]
abbrev L_spec_l01Split_4_rt : List Slot := [.junk, .junk, .junk, .junk, .junk, .junk, .junk, .junk, .junk, .junk, .junk, .junk, .junk, .junk, .junk, .junk, .junk, .junk, .junk, .junk, .junk, .junk, .junk, .junk, .junk, .junk, .junk, .junk, .junk, .junk, .junk, .junk, .junk, .junk, .junk]

def L_spec_l01Split_4_b (Φ : Post) (u : (ByteArray × Int)) (N : (ByteArray × Int) → (Value × Int × Int) → World → Prop) (s : (Value × Int × Int)) (w : World) : Prop :=
  B_spec_l01Split_4 u.1 u.2 s.1 s.2.1 s.2.2 N (fun v w => ∀ j : Nat → Value, Φ (.exit 0) (mkT j 0 L_spec_l01Split_4_e0 v) w) w

theorem L_spec_l01Split_4_eq (j : Nat → Value) (u : (ByteArray × Int)) (s : (Value × Int × Int)) (N : (ByteArray × Int) → (Value × Int × Int) → World → Prop) (D0 : (ByteArray × Value × Int × Unit) → World → Prop) (R : (Unit) → World → Prop) (w : World) :
    W Tryd.prog ty (fun _ _ _ _ => False) (loopAt Tryd.f15 4) (loopPost L_spec_l01Split_4_sp [(0, (⟨L_spec_l01Split_4_e0, D0⟩ : Door))] ⟨L_spec_l01Split_4_rt, R⟩ (fun v w => N ((fun v => (v.1, v.2.1)) v) ((fun v => (v.2.2.1, v.2.2.2.1, v.2.2.2.2.1)) v) w)) (mkT j 0 L_spec_l01Split_4_sp ((fun u s => (u.1, u.2, s.1, s.2.1, s.2.2, ())) u s)) w =
    B_spec_l01Split_4 u.1 u.2 s.1 s.2.1 s.2.2 N D0 w := by
  kernel_rfl

def O_spec_l01Split_1 : Code → Post → List SV → World → Prop :=
  orc 4 (loopAt Tryd.f15 4) L_spec_l01Split_4_sp (fun Φ fr w => LOOP (U := (ByteArray × Int)) (S := (Value × Int × Int)) ((fun v => (v.1, v.2.1)) (extT L_spec_l01Split_4_sp fr)) (L_spec_l01Split_4_b Φ ((fun v => (v.1, v.2.1)) (extT L_spec_l01Split_4_sp fr))) ((fun v => (v.2.2.1, v.2.2.2.1, v.2.2.2.2.1)) (extT L_spec_l01Split_4_sp fr)) w) (fun _ _ _ _ => False)

theorem O_spec_l01Split_1_ok : Sound Tryd.prog O_spec_l01Split_1 :=
  orc_ok (sound_none _) fun Φ fr w hs h => loop_ok (ty := ty) follows (sound_none _) L_spec_l01Split_4_sp (fun v => (v.1, v.2.1)) (fun v => (v.2.2.1, v.2.2.2.1, v.2.2.2.2.1)) (fun u s => (u.1, u.2, s.1, s.2.1, s.2.2, ())) (fun _ => rfl) L_spec_l01Split_4_ex L_spec_l01Split_4_rt (body := L_spec_l01Split_4_b Φ) (fun j u s w N hb => by
    have e := L_spec_l01Split_4_eq j u s N (doorOf Φ (.exit 0) L_spec_l01Split_4_e0).D (doorOf Φ .ret L_spec_l01Split_4_rt).D w
    exact Eq.mpr e hb) hs h

def V_spec_l01Split (s0 : ByteArray) (by1 : Int) (w : World) (K : Value → World → Prop) : Prop :=
  (Pr Tryd.prog (Instr.buildSlice 40 0 #[]) w (.one .any) fun (x8_2 : Value) w_1 => (At (loopAt Tryd.f15 4) (loopAt Tryd.f15 4) (LOOP (U := (ByteArray × Int)) (S := (Value × Int × Int)) (s0, by1) (fun N_18 s_19 w_20 => B_spec_l01Split_4 s0 by1 s_19.1 s_19.2.1 s_19.2.2 N_18 (fun (v_10 : (ByteArray × Value × Int × Unit)) w_11 => ∀ _j_12 : Nat → Value, (QAll Tryd.prog (Instr.sliceAt 9 (.string v_10.1) (some (.int .i64 v_10.2.2.1)) none none) .str fun (x32_13 : ByteArray) => (Pr Tryd.prog (Instr.buildSlice 40 1 #[(0, (.string x32_13))]) w_11 (.one .any) fun (x33_15 : Value) w_14 => (Pr Tryd.prog (Builtin.append_ #[40, 40] 40 #[v_10.2.1, x33_15]) w_14 (.one .any) fun (x34_17 : Value) w_16 => K (x34_17 : Value) w_16)))) w_20) ((x8_2 : Value), (0 : Int), (0 : Int)) w_1)))

theorem eq_spec_l01Split (s0 : ByteArray) (by1 : Int) (w : World) (K : Value → World → Prop) :
    W Tryd.prog ty O_spec_l01Split_1 (bodyOf Tryd.f15) (fnPost Tryd.prog Tryd.f15.results.toList (.one .any) K) (frame0 [(.string s0), (.int .u8 by1)] 35) w = V_spec_l01Split s0 by1 w K := by
  kernel_rfl

theorem body_spec_l01Split : Tryd.f15.body = some (bodyOf Tryd.f15) := by kernel_rfl
theorem name_spec_l01Split : (Tryd.f15.name == "runtime.NumGoroutine") = false := by kernel_rfl

theorem walk_spec_l01Split (s0 : ByteArray) (by1 : Int) {w : World} {K : Value → World → Prop} (h : V_spec_l01Split s0 by1 w K) : Fc Tryd.prog 15 #[(.string s0), (.int .u8 by1)] w (.one .any) K :=
  fn_ok follows O_spec_l01Split_1_ok Tryd.func15 name_spec_l01Split body_spec_l01Split Tryd.ntmps15 [(.string s0), (.int .u8 by1)] (Eq.mpr (eq_spec_l01Split s0 by1 w K) h)

-- uses S9PrsM
theorem c_spec_l01Split {s : BL} {by_ : UInt8} {n : Int} {w : World} {K : Value → World → Prop} (hn : n = (by_.toNat : Int)) (hl : s.length ≤ 1048576)
    (hK : ∀ w' v b, Below w.heap.size w w' → w.heap.size ≤ b → OwnT w' b v (splitA by_ [] s) → (splitA by_ [] s).length ≤ 1048577 → K v w') : Fc Tryd.prog F_spec_l01Split #[.string (bs s), .int .u8 n] w (.one .any) K := by
  subst hn
  refine walk_spec_l01Split _ _ (nilT fun b v w1 hb q1 o1 => ?_)
  have z1 := q1.size
  refine lp (fun t w' => ∃ (i a : Nat) (out : List BL) (b : Nat), t.2.1 = (a : Int) ∧ t.2.2 = (i : Int) ∧ a ≤ i ∧ i ≤ s.length ∧ Below w.heap.size w w' ∧ w.heap.size ≤ b ∧ OwnT w' b t.1 out ∧ out.length ≤ i ∧ splitA by_ [] s = out ++ splitA by_ ((s.drop a).take (i - a)) (s.drop i)) (fun t _ => ((s.length : Int) - t.2.2).toNat)
    ⟨0, 0, [], b, rfl, rfl, Nat.le_refl _, Nat.zero_le _, q1, by omega, o1, Nat.zero_le _, by simp⟩ ?_
  rintro ⟨v, at_, i_⟩ w2 N ⟨i, a, out, b, ea, ei, hai, hi, q2, hb, o2, hol, he⟩ hN
  simp only at ea ei o2
  subst ea; subst ei
  unfold B_spec_l01Split_4
  dsimp only
  have z2 := q2.size
  refine lenT ⟨fun h => ?_, fun h j => ?_⟩
  · have h : (i : Int) < s.length := dec_t h
    have hlt : i < s.length := by omega
    have hd : s.drop i = s[i] :: s.drop (i + 1) := List.drop_eq_getElem_cons hlt
    refine ixT (by omega) h fun x hx => ?_
    simp only [Int.toNat_natCast] at hx
    rw [List.getElem?_eq_getElem hlt] at hx
    have hx : s[i] = x := by simpa using hx
    rw [hd, hx, splitA] at he
    have wi : IntKind.i64.wrap ((i : Int) + 1) = ((i + 1 : Nat) : Int) := by rw [Mem.wrap_small (by omega) (by omega)]; rfl
    rw [wi]
    refine ⟨fun e => ?_, fun e => ?_⟩
    · have e := eq_t e
      have ex : x = by_ := UInt8.toNat_inj.1 (by omega)
      rw [if_pos ex] at he
      refine slT (by omega) (by omega) (by omega) (appT o2 (by omega) fun v' w3 b3 o3 m3 h3 => ?_)
      simp only [Int.toNat_natCast] at o3
      refine hN _ _ ⟨i + 1, i + 1, out ++ [(s.drop a).take (i - a)], b3, rfl, rfl, Nat.le_refl _, by omega, q2.trans (m3.below z2 (by simp; omega)), by omega, o3, by simp; omega, ?_⟩ (by simp only; omega)
      rw [he]; simp
    · have e := eq_f e
      have ex : ¬ x = by_ := fun h => e (by rw [h])
      rw [if_neg ex] at he
      refine hN _ _ ⟨i + 1, a, out, b, rfl, rfl, by omega, by omega, q2, hb, o2, by omega, ?_⟩ (by simp only; omega)
      rw [he]
      congr 2
      rw [show i + 1 - a = (i - a) + 1 from by omega, List.take_add_one]
      congr 1
      rw [List.getElem?_drop, show a + (i - a) = i from by omega, List.getElem?_eq_getElem hlt, hx]; rfl
  · have h : ¬ (i : Int) < s.length := dec_f h
    have hie : i = s.length := by omega
    subst hie
    refine slF (by omega) (by omega) (appT o2 (by omega) fun v' w3 b3 o3 m3 h3 => ?_)
    simp only [Int.toNat_natCast] at o3
    have hfin : splitA by_ [] s = out ++ [s.drop a] := by
      rw [he, List.drop_length, splitA, List.take_of_length_le (by simp)]
    rw [← hfin] at o3
    refine hK w3 v' b3 (q2.trans (m3.below z2 (by simp; omega))) (by omega) o3 ?_
    rw [hfin]; simp; omega

end Go.Proofs.YtmecbbanklffgaaDoor

/- The reading of spec_l01Read, and its contract. No condition. -/
namespace Go.Proofs.YtmecbbanklffgaaDoor
open Go Go.RowKit Eng Mem
set_option linter.unusedVariables false
set_option maxRecDepth 100000
def B_spec_l01Read_22 (x2 : Value) (out6 : Value) (rows7 : Value) (j8 : Int) (row9 : ByteArray) (i10 : Int) (N : (Value × Value × Value × Int × ByteArray) → Int → World → Prop) (D2 : (Value × Value × Value × Int × Unit) → World → Prop) (R : (Value × Bool × Unit) → World → Prop) (w : World) : Prop :=
  (((decide (i10 < j8)) = true → (∀ w_120, Drew w w_120 → (QAll Tryd.prog (Instr.index 9 (.string row9) (.int .i64 i10)) (.int .u8) fun (x87_121 : Int) => (((decide (x87_121 < (48 : Int))) = true → (Pr Tryd.prog (Instr.build 24 #[]) w_120 (.one .any) fun (x99_123 : Value) w_122 => (PrU Tryd.prog (Instr.storeAt 24 x2 x99_123) w_122 fun w_124 => R ((x2 : Value), false, ()) w_124))) ∧ ((decide (x87_121 < (48 : Int))) = false → (QAll Tryd.prog (Instr.index 9 (.string row9) (.int .i64 i10)) (.int .u8) fun (x92_126 : Int) => (QAll Tryd.prog (convert 5 2 (.int .u8 (IntKind.u8.wrap (x92_126 - (48 : Int))))) (.int .i64) fun (x94_127 : Int) => (QAll Tryd.prog (Instr.fieldAt 24 out6 1) .any fun (x95_128 : Value) => (QSub Tryd.prog (Instr.loadAt 2 x95_128) w_120 (.int .i64) fun (x96_129 : Int) => (((decide (x94_127 ≥ x96_129)) = true → (Pr Tryd.prog (Instr.build 24 #[]) w_120 (.one .any) fun (x99_131 : Value) w_130 => (PrU Tryd.prog (Instr.storeAt 24 x2 x99_131) w_130 fun w_132 => R ((x2 : Value), false, ()) w_132))) ∧ ((decide (x94_127 ≥ x96_129)) = false → (∀ w_134, Drew w_120 w_134 → (QAll Tryd.prog (Instr.index 9 (.string row9) (.int .i64 i10)) (.int .u8) fun (x105_135 : Int) => (QAll Tryd.prog (Instr.fieldAt 24 out6 2) .any fun (x107_136 : Value) => (Fc Tryd.prog 18 #[(.int .i64 i10), (.int .i64 j8)] w_134 (.one (.int .i64)) fun (x102_138 : Int) w_137 => (QAll Tryd.prog (Instr.indexAt 22 x107_136 (.int .i64 x102_138)) .any fun (x108_139 : Value) => (PrU Tryd.prog (Instr.storeAt 5 x108_139 (.int .u8 (IntKind.u8.wrap (x105_135 - (48 : Int))))) w_137 fun w_140 => N ((x2 : Value), (out6 : Value), (rows7 : Value), j8, row9) (IntKind.i64.wrap (i10 + (1 : Int))) w_140))))))))))))))))) ∧ ((decide (i10 < j8)) = false → D2 ((x2 : Value), (out6 : Value), (rows7 : Value), j8, ()) w))

abbrev L_spec_l01Read_22_e2 : List Slot := [.junk, .junk, .k .any, .junk, .junk, .junk, .k .any, .k .any, .k (.int .i64), .junk, .junk, .junk, .junk, .junk, .junk, .junk, .junk, .junk, .junk, .junk, .junk, .junk, .junk, .junk, .junk, .junk, .junk, .junk, .junk, .junk, .junk, .junk, .junk, .junk, .junk, .junk, .junk, .junk, .junk, .junk, .junk, .junk, .junk, .junk, .junk, .junk, .junk, .junk, .junk, .junk, .junk, .junk, .junk, .junk, .junk, .junk, .junk, .junk, .junk, .junk, .junk, .junk, .junk, .junk, .junk, .junk, .junk, .junk, .junk, .junk, .junk, .junk, .junk, .junk, .junk, .junk, .junk, .junk, .junk, .junk, .junk, .junk, .junk, .junk, .junk, .junk, .junk, .junk, .junk, .junk, .junk, .junk, .junk, .junk, .junk, .junk, .junk, .junk, .junk, .junk, .junk, .junk, .junk, .junk, .junk, .junk, .junk, .junk, .junk, .junk]

abbrev L_spec_l01Read_22_sp : List Slot := [.junk, .junk, .k .any, .junk, .junk, .junk, .k .any, .k .any, .k (.int .i64), .k .str, .k (.int .i64), .junk, .junk, .junk, .junk, .junk, .junk, .junk, .junk, .junk, .junk, .junk, .junk, .junk, .junk, .junk, .junk, .junk, .junk, .junk, .junk, .junk, .junk, .junk, .junk, .junk, .junk, .junk, .junk, .junk, .junk, .junk, .junk, .junk, .junk, .junk, .junk, .junk, .junk, .junk, .junk, .junk, .junk, .junk, .junk, .junk, .junk, .junk, .junk, .junk, .junk, .junk, .junk, .junk, .junk, .junk, .junk, .junk, .junk, .junk, .junk, .junk, .junk, .junk, .junk, .junk, .junk, .junk, .junk, .junk, .junk, .junk, .junk, .junk, .junk, .junk, .junk, .junk, .junk, .junk, .junk, .junk, .junk, .junk, .junk, .junk, .junk, .junk, .junk, .junk, .junk, .junk, .junk, .junk, .junk, .junk, .junk, .junk, .junk, .junk]
abbrev L_spec_l01Read_22_ex : List (Nat × List Slot) := [(2, L_spec_l01Read_22_e2)]
abbrev L_spec_l01Read_22_rt : List Slot := [.junk, .junk, .k .any, .k .bool, .junk, .junk, .junk, .junk, .junk, .junk, .junk, .junk, .junk, .junk, .junk, .junk, .junk, .junk, .junk, .junk, .junk, .junk, .junk, .junk, .junk, .junk, .junk, .junk, .junk, .junk, .junk, .junk, .junk, .junk, .junk, .junk, .junk, .junk, .junk, .junk, .junk, .junk, .junk, .junk, .junk, .junk, .junk, .junk, .junk, .junk, .junk, .junk, .junk, .junk, .junk, .junk, .junk, .junk, .junk, .junk, .junk, .junk, .junk, .junk, .junk, .junk, .junk, .junk, .junk, .junk, .junk, .junk, .junk, .junk, .junk, .junk, .junk, .junk, .junk, .junk, .junk, .junk, .junk, .junk, .junk, .junk, .junk, .junk, .junk, .junk, .junk, .junk, .junk, .junk, .junk, .junk, .junk, .junk, .junk, .junk, .junk, .junk, .junk, .junk, .junk, .junk, .junk, .junk, .junk, .junk]

def L_spec_l01Read_22_b (Φ : Post) (u : (Value × Value × Value × Int × ByteArray)) (N : (Value × Value × Value × Int × ByteArray) → Int → World → Prop) (s : Int) (w : World) : Prop :=
  B_spec_l01Read_22 u.1 u.2.1 u.2.2.1 u.2.2.2.1 u.2.2.2.2 s N (fun v w => ∀ j : Nat → Value, Φ (.exit 2) (mkT j 0 L_spec_l01Read_22_e2 v) w) (fun v w => ∀ j : Nat → Value, Φ .ret (mkT j 0 L_spec_l01Read_22_rt v) w) w

theorem L_spec_l01Read_22_eq (j : Nat → Value) (u : (Value × Value × Value × Int × ByteArray)) (s : Int) (N : (Value × Value × Value × Int × ByteArray) → Int → World → Prop) (D2 : (Value × Value × Value × Int × Unit) → World → Prop) (R : (Value × Bool × Unit) → World → Prop) (w : World) :
    W Tryd.prog ty (fun _ _ _ _ => False) (loopAt Tryd.f7 22) (loopPost L_spec_l01Read_22_sp [(2, (⟨L_spec_l01Read_22_e2, D2⟩ : Door))] ⟨L_spec_l01Read_22_rt, R⟩ (fun v w => N ((fun v => (v.1, v.2.1, v.2.2.1, v.2.2.2.1, v.2.2.2.2.1)) v) ((fun v => v.2.2.2.2.2.1) v) w)) (mkT j 0 L_spec_l01Read_22_sp ((fun u s => (u.1, u.2.1, u.2.2.1, u.2.2.2.1, u.2.2.2.2, s, ())) u s)) w =
    B_spec_l01Read_22 u.1 u.2.1 u.2.2.1 u.2.2.2.1 u.2.2.2.2 s N D2 R w := by
  kernel_rfl

def O_spec_l01Read_1 : Code → Post → List SV → World → Prop :=
  orc 22 (loopAt Tryd.f7 22) L_spec_l01Read_22_sp (fun Φ fr w => LOOP (U := (Value × Value × Value × Int × ByteArray)) (S := Int) ((fun v => (v.1, v.2.1, v.2.2.1, v.2.2.2.1, v.2.2.2.2.1)) (extT L_spec_l01Read_22_sp fr)) (L_spec_l01Read_22_b Φ ((fun v => (v.1, v.2.1, v.2.2.1, v.2.2.2.1, v.2.2.2.2.1)) (extT L_spec_l01Read_22_sp fr))) ((fun v => v.2.2.2.2.2.1) (extT L_spec_l01Read_22_sp fr)) w) (fun _ _ _ _ => False)

theorem O_spec_l01Read_1_ok : Sound Tryd.prog O_spec_l01Read_1 :=
  orc_ok (sound_none _) fun Φ fr w hs h => loop_ok (ty := ty) follows (sound_none _) L_spec_l01Read_22_sp (fun v => (v.1, v.2.1, v.2.2.1, v.2.2.2.1, v.2.2.2.2.1)) (fun v => v.2.2.2.2.2.1) (fun u s => (u.1, u.2.1, u.2.2.1, u.2.2.2.1, u.2.2.2.2, s, ())) (fun _ => rfl) L_spec_l01Read_22_ex L_spec_l01Read_22_rt (body := L_spec_l01Read_22_b Φ) (fun j u s w N hb => by
    have e := L_spec_l01Read_22_eq j u s N (doorOf Φ (.exit 2) L_spec_l01Read_22_e2).D (doorOf Φ .ret L_spec_l01Read_22_rt).D w
    exact Eq.mpr e hb) hs h

def B_spec_l01Read_16 (x2 : Value) (out6 : Value) (rows7 : Value) (j8 : Int) (N : (Value × Value × Value) → Int → World → Prop) (D0 : (Value × Value × Unit) → World → Prop) (R : (Value × Bool × Unit) → World → Prop) (w : World) : Prop :=
  (QAll Tryd.prog (Instr.fieldAt 24 out6 0) .any fun (x65_111 : Value) => (QSub Tryd.prog (Instr.loadAt 2 x65_111) w (.int .i64) fun (x66_112 : Int) => (((decide (j8 < x66_112)) = true → (QAll Tryd.prog (Instr.indexAt 40 rows7 (.int .i64 (IntKind.i64.wrap (j8 - (1 : Int))))) .any fun (x73_113 : Value) => (QSub Tryd.prog (Instr.loadAt 9 x73_113) w .str fun (x74_114 : ByteArray) => (QAll Tryd.prog (Builtin.len_ #[9] 3 #[(.string x74_114)]) (.int .i64) fun (x76_115 : Int) => (((x76_115 != j8) = true → (Pr Tryd.prog (Instr.build 24 #[]) w (.one .any) fun (x79_117 : Value) w_116 => (PrU Tryd.prog (Instr.storeAt 24 x2 x79_117) w_116 fun w_118 => R ((x2 : Value), false, ()) w_118))) ∧ ((x76_115 != j8) = false → (At (loopAt Tryd.f7 22) (loopAt Tryd.f7 22) (LOOP (U := (Value × Value × Value × Int × ByteArray)) (S := Int) ((x2 : Value), (out6 : Value), (rows7 : Value), j8, x74_114) (fun N_148 s_149 w_150 => B_spec_l01Read_22 (x2 : Value) (out6 : Value) (rows7 : Value) j8 x74_114 s_149 N_148 (fun (v_142 : (Value × Value × Value × Int × Unit)) w_143 => ∀ _j_144 : Nat → Value, N ((v_142.1 : Value), (v_142.2.1 : Value), (v_142.2.2.1 : Value)) (IntKind.i64.wrap (v_142.2.2.2.1 + (1 : Int))) w_143) (fun (v_145 : (Value × Bool × Unit)) w_146 => ∀ _j_147 : Nat → Value, R ((v_145.1 : Value), v_145.2.1, ()) w_146) w_150) (0 : Int) w)))))))) ∧ ((decide (j8 < x66_112)) = false → D0 ((x2 : Value), (out6 : Value), ()) w))))

abbrev L_spec_l01Read_16_e0 : List Slot := [.junk, .junk, .k .any, .junk, .junk, .junk, .k .any, .junk, .junk, .junk, .junk, .junk, .junk, .junk, .junk, .junk, .junk, .junk, .junk, .junk, .junk, .junk, .junk, .junk, .junk, .junk, .junk, .junk, .junk, .junk, .junk, .junk, .junk, .junk, .junk, .junk, .junk, .junk, .junk, .junk, .junk, .junk, .junk, .junk, .junk, .junk, .junk, .junk, .junk, .junk, .junk, .junk, .junk, .junk, .junk, .junk, .junk, .junk, .junk, .junk, .junk, .junk, .junk, .junk, .junk, .junk, .junk, .junk, .junk, .junk, .junk, .junk, .junk, .junk, .junk, .junk, .junk, .junk, .junk, .junk, .junk, .junk, .junk, .junk, .junk, .junk, .junk, .junk, .junk, .junk, .junk, .junk, .junk, .junk, .junk, .junk, .junk, .junk, .junk, .junk, .junk, .junk, .junk, .junk, .junk, .junk, .junk, .junk, .junk, .junk]

abbrev L_spec_l01Read_16_sp : List Slot := [.junk, .junk, .k .any, .junk, .junk, .junk, .k .any, .k .any, .k (.int .i64), .junk, .junk, .junk, .junk, .junk, .junk, .junk, .junk, .junk, .junk, .junk, .junk, .junk, .junk, .junk, .junk, .junk, .junk, .junk, .junk, .junk, .junk, .junk, .junk, .junk, .junk, .junk, .junk, .junk, .junk, .junk, .junk, .junk, .junk, .junk, .junk, .junk, .junk, .junk, .junk, .junk, .junk, .junk, .junk, .junk, .junk, .junk, .junk, .junk, .junk, .junk, .junk, .junk, .junk, .junk, .junk, .junk, .junk, .junk, .junk, .junk, .junk, .junk, .junk, .junk, .junk, .junk, .junk, .junk, .junk, .junk, .junk, .junk, .junk, .junk, .junk, .junk, .junk, .junk, .junk, .junk, .junk, .junk, .junk, .junk, .junk, .junk, .junk, .junk, .junk, .junk, .junk, .junk, .junk, .junk, .junk, .junk, .junk, .junk, .junk, .junk]
abbrev L_spec_l01Read_16_ex : List (Nat × List Slot) := [(0, L_spec_l01Read_16_e0)]
abbrev L_spec_l01Read_16_rt : List Slot := [.junk, .junk, .k .any, .k .bool, .junk, .junk, .junk, .junk, .junk, .junk, .junk, .junk, .junk, .junk, .junk, .junk, .junk, .junk, .junk, .junk, .junk, .junk, .junk, .junk, .junk, .junk, .junk, .junk, .junk, .junk, .junk, .junk, .junk, .junk, .junk, .junk, .junk, .junk, .junk, .junk, .junk, .junk, .junk, .junk, .junk, .junk, .junk, .junk, .junk, .junk, .junk, .junk, .junk, .junk, .junk, .junk, .junk, .junk, .junk, .junk, .junk, .junk, .junk, .junk, .junk, .junk, .junk, .junk, .junk, .junk, .junk, .junk, .junk, .junk, .junk, .junk, .junk, .junk, .junk, .junk, .junk, .junk, .junk, .junk, .junk, .junk, .junk, .junk, .junk, .junk, .junk, .junk, .junk, .junk, .junk, .junk, .junk, .junk, .junk, .junk, .junk, .junk, .junk, .junk, .junk, .junk, .junk, .junk, .junk, .junk]

def L_spec_l01Read_16_b (Φ : Post) (u : (Value × Value × Value)) (N : (Value × Value × Value) → Int → World → Prop) (s : Int) (w : World) : Prop :=
  B_spec_l01Read_16 u.1 u.2.1 u.2.2 s N (fun v w => ∀ j : Nat → Value, Φ (.exit 0) (mkT j 0 L_spec_l01Read_16_e0 v) w) (fun v w => ∀ j : Nat → Value, Φ .ret (mkT j 0 L_spec_l01Read_16_rt v) w) w

theorem L_spec_l01Read_16_eq (j : Nat → Value) (u : (Value × Value × Value)) (s : Int) (N : (Value × Value × Value) → Int → World → Prop) (D0 : (Value × Value × Unit) → World → Prop) (R : (Value × Bool × Unit) → World → Prop) (w : World) :
    W Tryd.prog ty O_spec_l01Read_1 (loopAt Tryd.f7 16) (loopPost L_spec_l01Read_16_sp [(0, (⟨L_spec_l01Read_16_e0, D0⟩ : Door))] ⟨L_spec_l01Read_16_rt, R⟩ (fun v w => N ((fun v => (v.1, v.2.1, v.2.2.1)) v) ((fun v => v.2.2.2.1) v) w)) (mkT j 0 L_spec_l01Read_16_sp ((fun u s => (u.1, u.2.1, u.2.2, s, ())) u s)) w =
    B_spec_l01Read_16 u.1 u.2.1 u.2.2 s N D0 R w := by
  kernel_rfl

def O_spec_l01Read_2 : Code → Post → List SV → World → Prop :=
  orc 16 (loopAt Tryd.f7 16) L_spec_l01Read_16_sp (fun Φ fr w => LOOP (U := (Value × Value × Value)) (S := Int) ((fun v => (v.1, v.2.1, v.2.2.1)) (extT L_spec_l01Read_16_sp fr)) (L_spec_l01Read_16_b Φ ((fun v => (v.1, v.2.1, v.2.2.1)) (extT L_spec_l01Read_16_sp fr))) ((fun v => v.2.2.2.1) (extT L_spec_l01Read_16_sp fr)) w) O_spec_l01Read_1

theorem O_spec_l01Read_2_ok : Sound Tryd.prog O_spec_l01Read_2 :=
  orc_ok O_spec_l01Read_1_ok fun Φ fr w hs h => loop_ok (ty := ty) follows O_spec_l01Read_1_ok L_spec_l01Read_16_sp (fun v => (v.1, v.2.1, v.2.2.1)) (fun v => v.2.2.2.1) (fun u s => (u.1, u.2.1, u.2.2, s, ())) (fun _ => rfl) L_spec_l01Read_16_ex L_spec_l01Read_16_rt (body := L_spec_l01Read_16_b Φ) (fun j u s w N hb => by
    have e := L_spec_l01Read_16_eq j u s N (doorOf Φ (.exit 0) L_spec_l01Read_16_e0).D (doorOf Φ .ret L_spec_l01Read_16_rt).D w
    exact Eq.mpr e hb) hs h

abbrev J_spec_l01Read_1 : List Slot := [.junk, .junk, .k .any, .junk, .k .any, .junk, .k .any, .junk, .junk, .junk, .junk, .junk, .junk, .junk, .junk, .junk, .junk, .junk, .junk, .junk, .junk, .junk, .junk, .junk, .junk, .junk, .junk, .junk, .junk, .junk, .junk, .junk, .junk, .junk, .junk, .junk, .junk, .junk, .junk, .junk, .junk, .junk, .junk, .junk, .junk, .junk, .junk, .junk, .junk, .junk, .junk, .junk, .junk, .junk, .junk, .junk, .junk, .junk, .junk, .junk, .junk, .junk, .junk, .junk, .junk, .junk, .junk, .junk, .junk, .junk, .junk, .junk, .junk, .junk, .junk, .junk, .junk, .junk, .junk, .junk, .junk, .junk, .junk, .junk, .junk, .junk, .junk, .junk, .junk, .junk, .junk, .junk, .junk, .junk, .junk, .junk, .junk, .junk, .junk, .junk, .junk, .junk, .junk, .junk, .junk, .junk, .junk, .junk, .junk, .junk]
abbrev T_spec_l01Read_1 : Type := (Value × Value × Value × Unit)

abbrev J_spec_l01Read_2 : List Slot := [.junk, .junk, .k .any, .junk, .junk, .junk, .k .any, .k .any, .junk, .junk, .junk, .junk, .junk, .junk, .junk, .junk, .junk, .junk, .junk, .junk, .junk, .junk, .junk, .junk, .junk, .junk, .junk, .junk, .junk, .junk, .junk, .junk, .junk, .junk, .junk, .junk, .junk, .junk, .junk, .junk, .junk, .junk, .junk, .junk, .junk, .junk, .junk, .junk, .junk, .junk, .junk, .junk, .junk, .junk, .junk, .junk, .junk, .junk, .junk, .junk, .junk, .junk, .junk, .junk, .junk, .junk, .junk, .junk, .junk, .junk, .junk, .junk, .junk, .junk, .junk, .junk, .junk, .junk, .junk, .junk, .junk, .junk, .junk, .junk, .junk, .junk, .junk, .junk, .junk, .junk, .junk, .junk, .junk, .junk, .junk, .junk, .junk, .junk, .junk, .junk, .junk, .junk, .junk, .junk, .junk, .junk, .junk, .junk, .junk, .junk]
abbrev T_spec_l01Read_2 : Type := (Value × Value × Value × Unit)

def V_spec_l01Read_0 (text0 : ByteArray) (w : World) (J : T_spec_l01Read_1 → World → Prop) (K : (Value × Bool) → World → Prop) : Prop :=
  (Pr Tryd.prog (Instr.alloc 24 true (.tuple #[])) w (.one .any) fun (x2_2 : Value) w_1 => (Fc Tryd.prog 15 #[(.string text0), (.int .u8 (58 : Int))] w_1 (.one .any) fun (x12_4 : Value) w_3 => (QAll Tryd.prog (Builtin.len_ #[40] 3 #[x12_4]) (.int .i64) fun (x14_5 : Int) => (((x14_5 != (2 : Int)) = true → (Pr Tryd.prog (Instr.build 24 #[]) w_3 (.one .any) fun (x16_7 : Value) w_6 => (PrU Tryd.prog (Instr.storeAt 24 x2_2 x16_7) w_6 fun w_8 => (QSub Tryd.prog (Instr.loadAt 24 x2_2) w_8 .any fun (r_10 : Value) => K ((r_10 : Value), false) w_8)))) ∧ ((x14_5 != (2 : Int)) = false → (QAll Tryd.prog (Instr.indexAt 40 x12_4 (.int .i64 (0 : Int))) .any fun (x18_11 : Value) => (QSub Tryd.prog (Instr.loadAt 9 x18_11) w_3 .str fun (x19_12 : ByteArray) => (Fc Tryd.prog 15 #[(.string x19_12), (.int .u8 (44 : Int))] w_3 (.one .any) fun (x20_14 : Value) w_13 => (QAll Tryd.prog (Builtin.len_ #[40] 3 #[x20_14]) (.int .i64) fun (x22_15 : Int) => (((x22_15 != (2 : Int)) = true → (Pr Tryd.prog (Instr.build 24 #[]) w_13 (.one .any) fun (x24_17 : Value) w_16 => (PrU Tryd.prog (Instr.storeAt 24 x2_2 x24_17) w_16 fun w_18 => (QSub Tryd.prog (Instr.loadAt 24 x2_2) w_18 .any fun (r_20 : Value) => K ((r_20 : Value), false) w_18)))) ∧ ((x22_15 != (2 : Int)) = false → (∀ w_21, Drew w_13 w_21 → (QAll Tryd.prog (Instr.indexAt 40 x20_14 (.int .i64 (0 : Int))) .any fun (x26_22 : Value) => (QSub Tryd.prog (Instr.loadAt 9 x26_22) w_21 .str fun (x27_23 : ByteArray) => (QAll Tryd.prog (Instr.indexAt 40 x20_14 (.int .i64 (1 : Int))) .any fun (x30_24 : Value) => (QSub Tryd.prog (Instr.loadAt 9 x30_24) w_21 .str fun (x31_25 : ByteArray) => ((Fc Tryd.prog 16 #[(.string x27_23)] w_21 (.one (.int .i64)) fun (x28_27 : Int) w_26 => (Keeps w_21 w_26 (((Fc Tryd.prog 16 #[(.string x31_25)] w_26 (.one (.int .i64)) fun (x32_29 : Int) w_28 => (Keeps w_21 w_28 (((Pr Tryd.prog (Instr.build 24 #[(0, (.int .i64 x28_27)), (1, (.int .i64 x32_29))]) w_28 (.one .any) fun (x33_31 : Value) w_30 => (Keeps w_21 w_30 ((Pr Tryd.prog (Instr.alloc 24 true (.tuple #[])) w_30 (.one .any) fun (out6_33 : Value) w_32 => (Keeps w_21 w_32 ((PrU Tryd.prog (Instr.storeAt 24 out6_33 x33_31) w_32 fun w_34 => J ((x2_2 : Value), (x12_4 : Value), (out6_33 : Value), ()) w_34))))))) ∧ (Pr Tryd.prog (Instr.alloc 24 true (.tuple #[])) w_28 (.one .any) fun (out6_37 : Value) w_36 => (Keeps w_21 w_36 ((Pr Tryd.prog (Instr.build 24 #[(0, (.int .i64 x28_27)), (1, (.int .i64 x32_29))]) w_36 (.one .any) fun (x33_39 : Value) w_38 => (Keeps w_21 w_38 ((PrU Tryd.prog (Instr.storeAt 24 out6_37 x33_39) w_38 fun w_40 => J ((x2_2 : Value), (x12_4 : Value), (out6_37 : Value), ()) w_40))))))))))) ∧ (Pr Tryd.prog (Instr.alloc 24 true (.tuple #[])) w_26 (.one .any) fun (out6_43 : Value) w_42 => (Keeps w_21 w_42 ((Fc Tryd.prog 16 #[(.string x31_25)] w_42 (.one (.int .i64)) fun (x32_45 : Int) w_44 => (Keeps w_21 w_44 ((Pr Tryd.prog (Instr.build 24 #[(0, (.int .i64 x28_27)), (1, (.int .i64 x32_45))]) w_44 (.one .any) fun (x33_47 : Value) w_46 => (Keeps w_21 w_46 ((PrU Tryd.prog (Instr.storeAt 24 out6_43 x33_47) w_46 fun w_48 => J ((x2_2 : Value), (x12_4 : Value), (out6_43 : Value), ()) w_48)))))))))))))) ∧ (Pr Tryd.prog (Instr.alloc 24 true (.tuple #[])) w_21 (.one .any) fun (out6_51 : Value) w_50 => (Keeps w_21 w_50 ((Fc Tryd.prog 16 #[(.string x27_23)] w_50 (.one (.int .i64)) fun (x28_53 : Int) w_52 => (Keeps w_21 w_52 ((Fc Tryd.prog 16 #[(.string x31_25)] w_52 (.one (.int .i64)) fun (x32_55 : Int) w_54 => (Keeps w_21 w_54 ((Pr Tryd.prog (Instr.build 24 #[(0, (.int .i64 x28_53)), (1, (.int .i64 x32_55))]) w_54 (.one .any) fun (x33_57 : Value) w_56 => (Keeps w_21 w_56 ((PrU Tryd.prog (Instr.storeAt 24 out6_51 x33_57) w_56 fun w_58 => J ((x2_2 : Value), (x12_4 : Value), (out6_51 : Value), ()) w_58))))))))))))))))))))))))))))))

theorem eq_spec_l01Read_0 (text0 : ByteArray) (w : World) (J : T_spec_l01Read_1 → World → Prop) (K : (Value × Bool) → World → Prop) :
    WCR Tryd.prog ty O_spec_l01Read_2 (fun i => i == 12) 8 (doorW ⟨J_spec_l01Read_1, J⟩) (bodyOf Tryd.f7) (fnPost Tryd.prog Tryd.f7.results.toList (.two .any .bool) K) (frame0 [(.string text0)] 110) w = V_spec_l01Read_0 text0 w J K := by
  kernel_rfl

def V_spec_l01Read_1 (x2 : Value) (sides4 : Value) (out6 : Value) (w : World) (J : T_spec_l01Read_2 → World → Prop) (K : (Value × Bool) → World → Prop) : Prop :=
  (QAll Tryd.prog (Instr.fieldAt 24 out6 0) .any fun (x34_60 : Value) => (QSub Tryd.prog (Instr.loadAt 2 x34_60) w (.int .i64) fun (x35_61 : Int) => (Fc Tryd.prog 17 #[(.int .i64 x35_61), (.int .i64 (1 : Int)), (.int .i64 (17 : Int))] w (.one .bool) fun (x36_63 : Bool) w_62 => (((!x36_63) = true → (Pr Tryd.prog (Instr.build 24 #[]) w_62 (.one .any) fun (x44_65 : Value) w_64 => (PrU Tryd.prog (Instr.storeAt 24 x2 x44_65) w_64 fun w_66 => (QSub Tryd.prog (Instr.loadAt 24 x2) w_66 .any fun (r_68 : Value) => K ((r_68 : Value), false) w_66)))) ∧ ((!x36_63) = false → (QAll Tryd.prog (Instr.fieldAt 24 out6 1) .any fun (x39_69 : Value) => (QSub Tryd.prog (Instr.loadAt 2 x39_69) w_62 (.int .i64) fun (x40_70 : Int) => (Fc Tryd.prog 17 #[(.int .i64 x40_70), (.int .i64 (1 : Int)), (.int .i64 (4 : Int))] w_62 (.one .bool) fun (x41_72 : Bool) w_71 => (((!x41_72) = true → (Pr Tryd.prog (Instr.build 24 #[]) w_71 (.one .any) fun (x44_74 : Value) w_73 => (PrU Tryd.prog (Instr.storeAt 24 x2 x44_74) w_73 fun w_75 => (QSub Tryd.prog (Instr.loadAt 24 x2) w_75 .any fun (r_77 : Value) => K ((r_77 : Value), false) w_75)))) ∧ ((!x41_72) = false → (QAll Tryd.prog (Instr.indexAt 40 sides4 (.int .i64 (1 : Int))) .any fun (x46_78 : Value) => (QSub Tryd.prog (Instr.loadAt 9 x46_78) w_71 .str fun (x47_79 : ByteArray) => (Fc Tryd.prog 15 #[(.string x47_79), (.int .u8 (44 : Int))] w_71 (.one .any) fun (x48_81 : Value) w_80 => (QAll Tryd.prog (Instr.fieldAt 24 out6 0) .any fun (x49_82 : Value) => (QSub Tryd.prog (Instr.loadAt 2 x49_82) w_80 (.int .i64) fun (x50_83 : Int) => (((x50_83 == (1 : Int)) = true → (∀ w_84, Drew w_80 w_84 → (QAll Tryd.prog (Instr.indexAt 40 sides4 (.int .i64 (1 : Int))) .any fun (x54_85 : Value) => ((QSub Tryd.prog (Instr.loadAt 24 out6) w_84 .any fun (x52_86 : Value) => ((QSub Tryd.prog (Instr.loadAt 9 x54_85) w_84 .str fun (x55_87 : ByteArray) => (QAll Tryd.prog (do eqGuard .eql 9 (.tmp 55) (.const (.string (⟨#[]⟩))) (.string x55_87) (.string (⟨#[]⟩)); binOp .eql 9 (.string x55_87) (.string (⟨#[]⟩))) .bool fun (x56_88 : Bool) => (PrU Tryd.prog (Instr.storeAt 24 x2 x52_86) w_84 fun w_89 => (QSub Tryd.prog (Instr.loadAt 24 x2) w_89 .any fun (r_91 : Value) => K ((r_91 : Value), x56_88) w_89)))) ∧ (PrU Tryd.prog (Instr.storeAt 24 x2 x52_86) w_84 fun w_92 => (QSub Tryd.prog (Instr.loadAt 9 x54_85) w_92 .str fun (x55_94 : ByteArray) => (QAll Tryd.prog (do eqGuard .eql 9 (.tmp 55) (.const (.string (⟨#[]⟩))) (.string x55_94) (.string (⟨#[]⟩)); binOp .eql 9 (.string x55_94) (.string (⟨#[]⟩))) .bool fun (x56_95 : Bool) => (QSub Tryd.prog (Instr.loadAt 24 x2) w_92 .any fun (r_96 : Value) => K ((r_96 : Value), x56_95) w_92)))))) ∧ (QSub Tryd.prog (Instr.loadAt 9 x54_85) w_84 .str fun (x55_97 : ByteArray) => (QAll Tryd.prog (do eqGuard .eql 9 (.tmp 55) (.const (.string (⟨#[]⟩))) (.string x55_97) (.string (⟨#[]⟩)); binOp .eql 9 (.string x55_97) (.string (⟨#[]⟩))) .bool fun (x56_98 : Bool) => (QSub Tryd.prog (Instr.loadAt 24 out6) w_84 .any fun (x52_99 : Value) => (PrU Tryd.prog (Instr.storeAt 24 x2 x52_99) w_84 fun w_100 => (QSub Tryd.prog (Instr.loadAt 24 x2) w_100 .any fun (r_102 : Value) => K ((r_102 : Value), x56_98) w_100))))))))) ∧ ((x50_83 == (1 : Int)) = false → (QAll Tryd.prog (Builtin.len_ #[40] 3 #[x48_81]) (.int .i64) fun (x58_103 : Int) => (QAll Tryd.prog (Instr.fieldAt 24 out6 0) .any fun (x59_104 : Value) => (QSub Tryd.prog (Instr.loadAt 2 x59_104) w_80 (.int .i64) fun (x60_105 : Int) => (((x58_103 != (IntKind.i64.wrap (x60_105 - (1 : Int)))) = true → (Pr Tryd.prog (Instr.build 24 #[]) w_80 (.one .any) fun (x63_107 : Value) w_106 => (PrU Tryd.prog (Instr.storeAt 24 x2 x63_107) w_106 fun w_108 => (QSub Tryd.prog (Instr.loadAt 24 x2) w_108 .any fun (r_110 : Value) => K ((r_110 : Value), false) w_108)))) ∧ ((x58_103 != (IntKind.i64.wrap (x60_105 - (1 : Int)))) = false → J ((x2 : Value), (out6 : Value), (x48_81 : Value), ()) w_80))))))))))))))))))))))

theorem eq_spec_l01Read_1 (j : Nat → Value) (x2 : Value) (sides4 : Value) (out6 : Value) (w : World) (J : T_spec_l01Read_2 → World → Prop) (K : (Value × Bool) → World → Prop) :
    WCR Tryd.prog ty O_spec_l01Read_2 (fun i => i == 12) 15 (doorW ⟨J_spec_l01Read_2, J⟩) (restOf 8 (bodyOf Tryd.f7)) (fnPost Tryd.prog Tryd.f7.results.toList (.two .any .bool) K) (mkT j 0 J_spec_l01Read_1 (x2, sides4, out6, ())) w = V_spec_l01Read_1 x2 sides4 out6 w J K := by
  kernel_rfl

def V_spec_l01Read_2 (x2 : Value) (out6 : Value) (rows7 : Value) (w : World) (K : (Value × Bool) → World → Prop) : Prop :=
  (At (loopAt Tryd.f7 16) (loopAt Tryd.f7 16) (LOOP (U := (Value × Value × Value)) (S := Int) ((x2 : Value), (out6 : Value), (rows7 : Value)) (fun N_162 s_163 w_164 => B_spec_l01Read_16 (x2 : Value) (out6 : Value) (rows7 : Value) s_163 N_162 (fun (v_151 : (Value × Value × Unit)) w_152 => ∀ _j_153 : Nat → Value, (QSub Tryd.prog (Instr.loadAt 24 v_151.2.1) w_152 .any fun (x109_154 : Value) => (PrU Tryd.prog (Instr.storeAt 24 v_151.1 x109_154) w_152 fun w_155 => (QSub Tryd.prog (Instr.loadAt 24 v_151.1) w_155 .any fun (r_157 : Value) => K ((r_157 : Value), true) w_155)))) (fun (v_158 : (Value × Bool × Unit)) w_159 => ∀ _j_160 : Nat → Value, (QSub Tryd.prog (Instr.loadAt 24 v_158.1) w_159 .any fun (r_161 : Value) => K ((r_161 : Value), v_158.2.1) w_159)) w_164) (1 : Int) w))

theorem eq_spec_l01Read_2 (j : Nat → Value) (x2 : Value) (out6 : Value) (rows7 : Value) (w : World) (K : (Value × Bool) → World → Prop) :
    WR Tryd.prog ty O_spec_l01Read_2 (fun i => i == 12) (restOf 15 (restOf 8 (bodyOf Tryd.f7))) (fnPost Tryd.prog Tryd.f7.results.toList (.two .any .bool) K) (mkT j 0 J_spec_l01Read_2 (x2, out6, rows7, ())) w = V_spec_l01Read_2 x2 out6 rows7 w K := by
  kernel_rfl

def Q_spec_l01Read_2 (K : (Value × Bool) → World → Prop) : T_spec_l01Read_2 → World → Prop := fun v w => V_spec_l01Read_2 v.1 v.2.1 v.2.2.1 w K
theorem ok_spec_l01Read_2 (j : Nat → Value) (v : T_spec_l01Read_2) {w : World} {K : (Value × Bool) → World → Prop} (h : Q_spec_l01Read_2 K v w) : Code.wp Tryd.prog (restOf 15 (restOf 8 (bodyOf Tryd.f7))) (up (fnPost Tryd.prog Tryd.f7.results.toList (.two .any .bool) K)) (act (mkT j 0 J_spec_l01Read_2 v)) w :=
  WR_ok follows O_spec_l01Read_2_ok _ _ _ _ (Eq.mpr (eq_spec_l01Read_2 j v.1 v.2.1 v.2.2.1 w K) h)

def Q_spec_l01Read_1 (K : (Value × Bool) → World → Prop) : T_spec_l01Read_1 → World → Prop := fun v w => V_spec_l01Read_1 v.1 v.2.1 v.2.2.1 w (Q_spec_l01Read_2 K) K
theorem ok_spec_l01Read_1 (j : Nat → Value) (v : T_spec_l01Read_1) {w : World} {K : (Value × Bool) → World → Prop} (h : Q_spec_l01Read_1 K v w) : Code.wp Tryd.prog (restOf 8 (bodyOf Tryd.f7)) (up (fnPost Tryd.prog Tryd.f7.results.toList (.two .any .bool) K)) (act (mkT j 0 J_spec_l01Read_1 v)) w :=
  WCR_ok (J := doorW ⟨J_spec_l01Read_2, Q_spec_l01Read_2 K⟩) follows O_spec_l01Read_2_ok _ _ _ (fun fr w hd => cut_ok (sp := J_spec_l01Read_2) (D := Q_spec_l01Read_2 K) hd fun j v h => ok_spec_l01Read_2 j v h) (Eq.mpr (eq_spec_l01Read_1 j v.1 v.2.1 v.2.2.1 w (Q_spec_l01Read_2 K) K) h)

theorem body_spec_l01Read : Tryd.f7.body = some (bodyOf Tryd.f7) := by kernel_rfl
theorem name_spec_l01Read : (Tryd.f7.name == "runtime.NumGoroutine") = false := by kernel_rfl

theorem walk_spec_l01Read (text0 : ByteArray) {w : World} {K : (Value × Bool) → World → Prop} (h : V_spec_l01Read_0 text0 w (Q_spec_l01Read_1 K) K) : Fc Tryd.prog 7 #[(.string text0)] w (.two .any .bool) K :=
  fn_wp Tryd.func7 name_spec_l01Read body_spec_l01Read Tryd.ntmps7 [(.string text0)] (WCR_ok (J := doorW ⟨J_spec_l01Read_1, Q_spec_l01Read_1 K⟩) follows O_spec_l01Read_2_ok _ _ _ (fun fr w hd => cut_ok (sp := J_spec_l01Read_1) (D := Q_spec_l01Read_1 K) hd fun j v h => ok_spec_l01Read_1 j v h) (Eq.mpr (eq_spec_l01Read_0 text0 w (Q_spec_l01Read_1 K) K) h))

-- uses S1Cut
-- uses S9PrsR
-- cuts 8 15
-- alt 12
section
variable {t : BL} {w0 : World} {K : Value × Bool → World → Prop}
/-- What the reading must end in. -/
abbrev EndR (t : BL) (w0 : World) (K : Value × Bool → World → Prop) : Prop := ∀ w' c b, Below w0.heap.size w0 w' → c.Ok → (b = true → c.Is ∧ t = textT c) → (b = false → ∀ c' : Col, c'.Ok → c'.Is → t ≠ textT c') → K (c.val, b) w'
theorem rd_bad (hK : EndR t w0 K) {w : World} {p : Value} (q : Below w0.heap.size w0 w) (hv : CVar w0.heap.size w p) (h : ∀ c' : Col, c'.Ok → c'.Is → t ≠ textT c') :
    Pr Tryd.prog (Instr.build tC #[]) w (.one .any) fun x w1 => PrU Tryd.prog (Instr.storeAt tC p x) w1 fun w2 => QSub Tryd.prog (Instr.loadAt tC p) w2 .any fun r => K (r, false) w2 :=
  c_none (K := fun r w' => K (r, false) w') hv q.size fun w' q' => hK w' col0 false (q.trans q') col0_ok (fun e => by cases e) (fun _ => h)
theorem rd_badR (hK : EndR t w0 K) {w : World} {p : Value} {R : World → Prop} (q : Below w0.heap.size w0 w) (hv : CVar w0.heap.size w p) (h : ∀ c' : Col, c'.Ok → c'.Is → t ≠ textT c') (hR : ∀ w2, (QSub Tryd.prog (Instr.loadAt tC p) w2 .any fun r => K (r, false) w2) → R w2) :
    Pr Tryd.prog (Instr.build tC #[]) w (.one .any) fun x w1 => PrU Tryd.prog (Instr.storeAt tC p x) w1 fun w2 => R w2 := by
  obtain ⟨x, w1, h1, ⟨w2, h2, h3⟩⟩ := rd_bad hK q hv h
  exact ⟨x, w1, h1, ⟨w2, h2, hR _ h3⟩⟩
theorem rd2 (hK : EndR t w0 K) {w : World} {p rv : Value} {b br : Nat} {n k : Int} {rows : List BL} (hn : 2 ≤ n) (hn1 : n ≤ 17) (k0 : 1 ≤ k) (k1 : k ≤ 4) (hrl : (rows.length : Int) = n - 1)
    (S : Rd w0 w p b n k []) (o : OwnT w br rv rows) (hbr : br ≠ b) (ht : t = (decS n.toNat ++ 44 :: decS k.toNat) ++ 58 :: jn 44 rows)
    (hc : ∀ c' : Col, c'.Ok → c'.Is → t = textT c' → c'.n = n ∧ c'.k = k ∧ rows = rowsT c' rows.length) : V_spec_l01Read_2 p (ptr b 0) rv w K := by
  unfold V_spec_l01Read_2
  refine lp (fun j w' => ∃ m : Nat, j = (m : Int) + 1 ∧ m ≤ rows.length ∧ Good rows k m ∧ Rd w0 w' p b n k (rows.take m).flatten ∧ Mod [b] w w') (fun j _ => (n - j).toNat) ⟨0, by simp, Nat.zero_le _, fun r hr => absurd hr (by omega), S, Mod.refl _ _⟩ ?_
  rintro j w1 N ⟨m, ej, hm, good, S1, m1⟩ hN
  subst ej
  unfold B_spec_l01Read_16
  have o1 := o.mod m1 (by simpa using hbr)
  have hgl := good_len good
  have htm := tri_mono (a := m) (b := rows.length) hm
  have htr : edgesOf n = tri rows.length := by
    have := tri_edges ⟨rows.length + 1, by omega⟩ (by simp)
    simp only [Nat.add_sub_cancel] at this
    rw [show n = ((rows.length + 1 : Nat) : Int) from by omega, this]
  have h136 := edges_le (n := n) (by omega) hn1
  refine col_n S1.at ⟨fun h => ?_, fun h _ => ?_⟩
  · have h : (m : Int) + 1 < n := dec_t h
    have hlt : m < rows.length := by omega
    have hmono := tri_mono (a := m + 1) (b := rows.length) (by omega)
    simp only [tri] at hmono
    rw [Mem.wrap_small (n := (m : Int) + 1 - 1) (by omega) (by omega)]
    refine atTs o1.sl (by omega) (by omega) fun row hrow => lenT ⟨fun e => ?_, fun e => ?_⟩
    all_goals rw [show ((m : Int) + 1 - 1).toNat = m from by omega] at hrow
    · have e := ne_t e
      refine rd_badR hK S1.bel S1.var (fun c' ho hi ht' => e ?_) (fun w2 h j => h)
      have hcc := (hc c' ho hi ht').2.2
      rw [hcc] at hrow
      rw [(row_get hrow).2, rowT_len]
      omega
    · have e := ne_f e
      have hl : row.length = m + 1 := by omega
      refine lp (fun i w' => ∃ q : Nat, i = (q : Int) ∧ q ≤ m + 1 ∧ (∀ x ∈ row.take q, 48 ≤ x.toNat ∧ (x.toNat : Int) - 48 < k) ∧ Rd w0 w' p b n k ((rows.take m).flatten ++ row.take q) ∧ Mod [b] w w') (fun i _ => ((m : Int) + 1 - i).toNat) ⟨0, rfl, Nat.zero_le _, (fun x hx => by simp at hx), by simpa using S1, m1⟩ ?_
      rintro i w2 N2 ⟨q, ei, hq, dig, S2, m2⟩ hN2
      subst ei
      unfold B_spec_l01Read_22
      refine ⟨fun h2 w3 hd => ?_, fun h2 _ => ?_⟩
      · have h2 : (q : Int) < (m : Int) + 1 := dec_t h2
        have hql : q < row.length := by omega
        have S3 := S2.keep (hd.below _)
        have m3 := m2.trans (mod_of_below (hd.below _) [b])
        have hgo : ∀ x : UInt8, row[((q : Nat) : Int).toNat]? = some x → x = row[q] := fun x hx => by
          rw [Int.toNat_natCast, List.getElem?_eq_getElem hql] at hx
          exact (Option.some.inj hx).symm
        have hbad : ∀ {P : Prop}, (∀ c' : Col, c'.Ok → c'.Is → t = textT c' → 48 ≤ row[q].toNat ∧ (row[q].toNat : Int) - 48 < k → False) → (∀ c' : Col, c'.Ok → c'.Is → t ≠ textT c') := fun {P} hh c' ho hi ht' => by
          obtain ⟨en, ek, er⟩ := hc c' ho hi ht'
          rw [er] at hrow
          have hrw := row_get hrow
          have hd := row_dig (m := rows.length) (r := m) (i := q) (x := row[q]) hi ho (by omega) hlt (by rw [← hrw.2, List.getElem?_eq_getElem hql])
          rw [ek] at hd
          exact hh c' ho hi ht' hd
        refine ixT (by omega) (by omega) fun x hx => ?_
        obtain rfl := hgo x hx
        refine ⟨fun h3 => ?_, fun h3 => ?_⟩
        · have h3 := dec_t h3
          exact rd_badR hK S3.bel S3.var (hbad (P := True) fun c' _ _ _ hd => by omega) (fun w2 h j j2 => h)
        have h3 := dec_f h3
        have hx48 : 48 ≤ row[q].toNat := by omega
        refine ixT (by omega) (by omega) fun x hx => ?_
        obtain rfl := hgo x hx
        have hun : IntKind.u8.wrap ((row[q].toNat : Int) - 48) = un row[q] := rfl
        rw [hun, un_nat hx48]
        have hxl := row[q].toNat_lt
        refine cvt (by rw [Tryd.underlying5]; rfl) Tryd.underlyingTI ?_
        rw [Mem.wrap_small (n := (row[q].toNat : Int) - 48) (by omega) (by omega)]
        refine col_k S3.at ⟨fun h4 => ?_, fun h4 w4 hd4 => ?_⟩
        · have h4 := dec_t h4
          exact rd_badR hK S3.bel S3.var (hbad (P := True) fun c' _ _ _ hd => by
            have h4' : (row[q].toNat : Int) - 48 ≥ k := h4
            omega) (fun w2 h j j2 => h)
        have h4 : ¬ (row[q].toNat : Int) - 48 ≥ k := dec_f h4
        have S4 := S3.keep (hd4.below _)
        have m4 := m3.trans (mod_of_below (hd4.below _) [b])
        refine ixT (by omega) (by omega) fun x hx => ?_
        obtain rfl := hgo x hx
        rw [hun]
        refine fldp f2 (c_spec_l01Edge (by omega) (by omega) (by omega) (by omega) ?_)
        rw [num_of (by omega), show enum (q : Int) ((m : Int) + 1) = ((tri (m + 1 - 1) + q : Nat) : Int) from enum_tri (i := q) (j := m + 1) (by omega) (by omega)]
        refine S4.put (by simp [hgl]; omega) (by simp [hgl]; omega) fun w5 m5 S5 => ?_
        rw [Mem.wrap_small (n := (q : Int) + 1) (by omega) (by omega)]
        have htk : row.take (q + 1) = row.take q ++ [row[q]] := by rw [List.take_add_one, List.getElem?_eq_getElem hql]; rfl
        refine hN2 _ _ ⟨q + 1, by simp, by omega, ?_, by rw [htk, ← List.append_assoc]; exact S5, m4.trans m5⟩ (by omega)
        intro x hx
        rw [htk] at hx
        rcases List.mem_append.1 hx with hx | hx
        · exact dig x hx
        · have : x = row[q] := by simpa using hx
          subst this
          exact ⟨hx48, by omega⟩
      · have h2 : ¬ (q : Int) < (m : Int) + 1 := dec_f h2
        have hqm : q = m + 1 := by omega
        subst hqm
        rw [List.take_of_length_le (l := row) (i := m + 1) (by omega)] at dig S2
        dsimp only
        rw [Mem.wrap_small (n := (m : Int) + 1 + 1) (by omega) (by omega)]
        have htk : (rows.take (m + 1)).flatten = (rows.take m).flatten ++ row := by rw [List.take_add_one, hrow, List.flatten_append]; simp
        refine hN _ _ ⟨m + 1, by simp, by omega, ?_, by rw [htk]; exact S2, m2⟩ (by omega)
        intro r hr
        by_cases hrm : r < m
        · exact good r hrm
        · have : r = m := by omega
          subst this
          exact ⟨row, hrow, by omega, dig⟩
  · have h : ¬ (m : Int) + 1 < n := dec_f h
    have hml : m = rows.length := by omega
    subst hml
    rw [List.take_of_length_le (Nat.le_refl _)] at S1
    obtain ⟨ok, is, er⟩ := good_is (m := rows.length) rfl (by omega) hn1 k0 k1 good
    refine col_all ok S1.at (c_ret (K := fun r w' => K (r, true) w') ok S1.var S1.bel.size fun w' q' => hK w' _ true (S1.bel.trans q') ok (fun _ => ⟨is, ?_⟩) (fun e => by cases e))
    rw [ht]
    unfold textT headT tailT
    show _ = _ ++ 58 :: jn 44 (rowsT (colX n k rows.flatten) (n.toNat - 1))
    rw [show n.toNat - 1 = rows.length from by omega, er]
    rfl
theorem ixOT {w : World} {b : Nat} {v : Value} {l : List BL} {k : IntKind} {i : Int} {K : Value → Prop} (h : OwnT w b v l) (h0 : 0 ≤ i) (h1 : i < l.length) (hK : K (ptr b i.toNat)) :
    QAll Tryd.prog (Instr.indexAt tSS v (.int k i)) .any K := by
  obtain ⟨cap, l', rfl, hb, _⟩ := h.ex
  refine ⟨ptr b i.toNat, fun w' => ?_, hK⟩
  have hs : (Tryd.prog.info? tS).map (·.size) = some 1 := y1S.size
  unfold Instr.indexAt
  simp [asIntOf, run_underlying ySS.und, sizeOf_run hs, h0, h1, add_none]
theorem ldT {w : World} {b i : Nat} {v : Value} {l : List BL} {s : BL} {K : ByteArray → Prop} (h : OwnT w b v l) (hi : l[i]? = some s) (hK : K (bs s)) : QSub Tryd.prog (Instr.loadAt tS (ptr b i)) w .str K := by
  have hl := (List.getElem?_eq_some_iff.1 hi).1
  obtain ⟨b', off', cs, e, fz, hp, ha, hr⟩ := h.row
  injection hp with hp; injection hp with hp; injection hp with h1 h2 _
  subst h1; subst h2
  refine ld (k := .str) (x := bs s) y1S (row_of ha i [Value.string (bs s)] fun j hj => ?_) hK
  have hj : j = 0 := by simp at hj; exact hj
  subst hj
  have := hr i (by simpa using hl)
  rw [Nat.zero_add] at this
  rw [Nat.add_zero, this]
  simp [hi]
theorem cret2 {B : Nat} {w : World} {p : Value} {c : Col} {K : World → Prop} (h : c.Ok) (hv : CVar B w p) (hB : B ≤ w.heap.size)
    (hK : ∀ w' b, p = ptr b 0 → Mod [b] w w' → Below B w w' → (∀ K' : Value → Prop, K' c.val → QSub Tryd.prog (Instr.loadAt tC p) w' .any K') → K w') : PrU Tryd.prog (Instr.storeAt tC p c.val) w K := by
  obtain ⟨b, l, rfl, hb, hl, hn⟩ := hv
  exact stA0 yC hl h.cells_len (by rw [h.cells_len, hn]) c.cells_one fun w2 m hs hb2 => hK w2 b rfl m (m.below (by omega) (by simp; omega)) fun K' k => ldA yC h.cells_len (blk_row hb2) k
theorem rd1 (hK : EndR t w0 K) {J : T_spec_l01Read_2 → World → Prop} {w : World} {p sd : Value} {b bd : Nat} {A R h0 h1 : BL} (hl : t.length ≤ 1048576)
    (S : Rd w0 w p b (numB h0) (numB h1) []) (o : OwnT w bd sd [A, R]) (hbd : bd ≠ b) (hpd : p ≠ ptr bd 0) (ht : splitA 58 [] t = [A, R]) (hA : splitA 44 [] A = [h0, h1])
    (hJ : ∀ w' rv br, 2 ≤ numB h0 → numB h0 ≤ 17 → 1 ≤ numB h1 → numB h1 ≤ 4 → ((splitA 44 [] R).length : Int) = numB h0 - 1 → Rd w0 w' p b (numB h0) (numB h1) [] → OwnT w' br rv (splitA 44 [] R) → br ≠ b → J (p, ptr b 0, rv, ()) w') :
    V_spec_l01Read_1 p sd (ptr b 0) w J K := by
  have hjn := jn_splitA 58 t []
  rw [ht, List.nil_append] at hjn
  have hjt : t = A ++ 58 :: R := hjn.symm
  have hRl : R.length ≤ 1048576 := by rw [hjt] at hl; simp at hl; omega
  have comp : ∀ c' : Col, c'.Ok → c'.Is → t = textT c' → numB h0 = c'.n ∧ numB h1 = c'.k ∧ R = tailT c' := by
    intro c' ho hi e
    have e1 := split_text hi ho
    rw [← e, ht] at e1
    injection e1 with ea e1
    injection e1 with er _
    have e2 := split_head hi
    rw [← ea, hA] at e2
    injection e2 with e0 e2
    injection e2 with e1 _
    have a := num_dec ⟨_, (fin_n hi).1⟩
    have b := num_dec ⟨_, (fin_n hi).2⟩
    simp only at a b
    refine ⟨?_, ?_, er⟩
    · rw [e0, a]; have := hi.1; omega
    · rw [e1, b]; have := hi.2.2.1; omega
  unfold V_spec_l01Read_1
  refine col_n S.at (c_spec_l01In _ _ _ ⟨fun h => ?_, fun h => col_k S.at (c_spec_l01In _ _ _ ⟨fun h' => ?_, fun h' => ?_⟩)⟩)
  · have h : ¬ (1 ≤ numB h0 ∧ numB h0 ≤ 17) := notd_t h
    exact rd_bad hK S.bel S.var fun c' ho hi e => h (by rw [(comp c' ho hi e).1]; exact ⟨hi.1, hi.2.1⟩)
  · have h' : ¬ (1 ≤ numB h1 ∧ numB h1 ≤ 4) := notd_t h'
    exact rd_bad hK S.bel S.var fun c' ho hi e => h' (by rw [(comp c' ho hi e).2.1]; exact ⟨hi.2.2.1, hi.2.2.2.1⟩)
  have h : 1 ≤ numB h0 ∧ numB h0 ≤ 17 := notd_f h
  have h' : 1 ≤ numB h1 ∧ numB h1 ≤ 4 := notd_f h'
  refine atTs o.sl (by omega) (by simp) fun s hs => ?_
  obtain rfl : R = s := by simpa using hs
  refine c_spec_l01Split (by_ := 44) rfl hRl fun w2 rv br q2 hbr o2 hl2 => ?_
  have S2 := S.keep q2
  have od2 : OwnT w2 bd sd [A, R] := o.keep q2
  have hbr' : br ≠ b := by have := at_lt S.blk; omega
  refine col_n S2.at ⟨fun h1' => ?_, fun h1' => ?_⟩
  · have h1' : numB h0 = 1 := eq_t h1'
    intro w3 hd
    have S3 := S2.keep (hd.below _)
    have od3 : OwnT w3 bd sd [A, R] := od2.keep (hd.below _)
    have hX : (colX (numB h0) (numB h1) []).Ok := colX_ok (by simp) ⟨by omega, by omega⟩ ⟨by omega, by omega⟩
    have hXi : (colX (numB h0) (numB h1) []).Is := by
      refine ⟨h.1, h.2, h'.1, h'.2, fun i hi => ?_⟩
      have : edgesOf (colX (numB h0) (numB h1) []).n = 0 := by show edgesOf (numB h0) = 0; rw [h1']; decide
      rw [this, if_neg (by omega), colX_e, dif_neg (by simp)]
    have hh0 : h0 = decS 1 := by have := num_is (s := h0) (by omega) (by omega); rw [h1'] at this; exact this
    have hh1 : h1 = decS (numB h1).toNat := num_is (by omega) (by omega)
    have hAj : A = h0 ++ 44 :: h1 := by
      have := jn_splitA 44 A []
      rw [hA] at this
      exact this.symm
    have htt : R = [] → t = textT (colX (numB h0) (numB h1) []) := by
      intro e
      rw [hjt, e, hAj]
      unfold textT headT tailT
      show (h0 ++ 44 :: h1) ++ 58 :: [] = (decS (numB h0).toNat ++ 44 :: decS (numB h1).toNat) ++ 58 :: jn 44 (rowsT _ ((numB h0).toNat - 1))
      rw [h1', ← hh1]
      rw [show decS ((1 : Int).toNat) = h0 from by rw [hh0]; rfl]
      rfl
    have fin : ∀ w', Below w0.heap.size w0 w' → K ((colX (numB h0) (numB h1) []).val, decide (R = [])) w' := fun w' q => by
      by_cases e : R = []
      · have := hK w' _ true q hX (fun _ => ⟨hXi, htt e⟩) (fun h => by cases h)
        simpa [e] using this
      · have := hK w' _ false q hX (fun h => by cases h) (fun _ c' ho hi ec => e (by
          obtain ⟨en, _, er⟩ := comp c' ho hi ec
          rw [er]
          unfold tailT
          rw [show c'.n.toNat - 1 = 0 from by omega]
          rfl))
        simpa [e] using this
    refine ixOT od3 (by omega) (by simp) ⟨col_all hX S3.at ⟨ldT od3 rfl (eqT (b := []) (cret2 hX S3.var S3.bel.size fun w4 bp ep m4 q4 hl4 => hl4 _ (fin w4 (S3.bel.trans q4)))), cret2 hX S3.var S3.bel.size fun w4 bp ep m4 q4 hl4 => ldT (od3.mod m4 (by subst ep; simp; rintro rfl; exact hpd rfl)) rfl (eqT (b := []) (hl4 _ (fin w4 (S3.bel.trans q4))))⟩, ldT od3 rfl (eqT (b := []) (col_all hX S3.at (cret2 hX S3.var S3.bel.size fun w4 bp ep m4 q4 hl4 => hl4 _ (fin w4 (S3.bel.trans q4)))))⟩
  · have h1' : numB h0 ≠ 1 := eq_f h1'
    refine lenTs o2.sl (col_n S2.at ⟨fun e => ?_, fun e => ?_⟩)
    · have e := ne_t e
      refine rd_bad hK S2.bel S2.var fun c' ho hi ec => e ?_
      obtain ⟨en, _, er⟩ := comp c' ho hi ec
      rw [er, split_tail hi ho (by omega), rowsT_len, Mem.wrap_small (by show _ ≤ numB h0 - 1; omega) (by show numB h0 - 1 ≤ _; omega)]
      show _ = numB h0 - 1
      omega
    · have e := ne_f e
      have e : (((splitA 44 [] R).length : Nat) : Int) = IntKind.i64.wrap (numB h0 - 1) := e
      rw [Mem.wrap_small (by omega) (by omega)] at e
      exact hJ w2 rv br (by omega) h.2 h'.1 h'.2 e S2 o2 hbr'
end
theorem c_spec_l01Read {t : BL} {w : World} {K : Value × Bool → World → Prop} (hl : t.length ≤ 1048576) (hK : EndR t w K) : Fc Tryd.prog F_spec_l01Read #[.string (bs t)] w (.two .any .bool) K := by
  refine walk_spec_l01Read _ ?_
  unfold V_spec_l01Read_0
  refine c_alloc fun p w1 q1 hv => c_spec_l01Split (by_ := 58) rfl hl fun w2 sd bd q2 hbd o2 hl2 => lenTs o2.sl ⟨fun e => ?_, fun e => ?_⟩
  · have e := ne_t e
    exact rd_bad hK (q1.trans (q2.mono q1.size)) (hv.keep q2) fun c' ho hi ec => e (by rw [ec, split_text hi ho]; rfl)
  have e := ne_f e
  obtain ⟨A, R, hAR⟩ : ∃ A R, splitA 58 [] t = [A, R] := by
    match h : splitA 58 [] t, e with
    | [A, R], _ => exact ⟨A, R, rfl⟩
    | [], e => simp at e
    | [_], e => simp at e
    | _ :: _ :: _ :: _, e => simp at e; omega
  rw [hAR] at o2
  have hjn := jn_splitA 58 t []
  rw [hAR, List.nil_append] at hjn
  have hjt : t = A ++ 58 :: R := hjn.symm
  have hAl : A.length ≤ 1048576 := by rw [hjt] at hl; simp at hl; omega
  have q02 := q1.trans (q2.mono q1.size)
  have z1 := q1.size; have z2 := q2.size
  have comp : ∀ c' : Col, c'.Ok → c'.Is → t = textT c' → A = headT c' := by
    intro c' ho hi ec
    have e1 := split_text hi ho
    rw [← ec, hAR] at e1
    injection e1
  refine atTs o2.sl (by omega) (by simp) fun s hs => ?_
  obtain rfl : A = s := by simpa using hs
  refine c_spec_l01Split (by_ := 44) rfl hAl fun w3 hv3 bh q3 hbh o3 hl3 => lenTs o3.sl ⟨fun e' => ?_, fun e' => ?_⟩
  · have e' := ne_t e'
    exact rd_bad hK (q02.trans (q3.mono q02.size)) ((hv.keep q2).keep q3) fun c' ho hi ec => e' (by rw [comp c' ho hi ec, split_head hi]; rfl)
  have e' := ne_f e'
  obtain ⟨h0, h1, hA⟩ : ∃ h0 h1, splitA 44 [] A = [h0, h1] := by
    match h : splitA 44 [] A, e' with
    | [h0, h1], _ => exact ⟨h0, h1, rfl⟩
    | [], e => simp at e
    | [_], e => simp at e
    | _ :: _ :: _ :: _, e => simp at e; omega
  rw [hA] at o3
  have hAj := jn_splitA 44 A []
  rw [hA, List.nil_append] at hAj
  have hAj : A = h0 ++ 44 :: h1 := hAj.symm
  have l0 : h0.length ≤ 1048576 := by rw [hAj] at hAl; simp at hAl; omega
  have l1 : h1.length ≤ 1048576 := by rw [hAj] at hAl; simp at hAl; omega
  intro w4 hd
  have q34 := q3.trans ((hd.below w3.heap.size).mono q3.size)
  have q04 := q02.trans (q34.mono q02.size)
  have o24 : OwnT w4 bd sd [A, R] := o2.keep q34
  have o34 : OwnT w4 bh hv3 [h0, h1] := o3.keep (hd.below _)
  have hv4 := (hv.keep q2).keep q34
  have z4 := q34.size
  have hpd : p ≠ ptr bd 0 := hv.ne hbd
  have fin : ∀ {w5 w6 : World} {b : Nat}, w5 = w4 → New w5 w6 b (.cells zC.toArray tC) → PrU Tryd.prog (Instr.storeAt tC (ptr b 0) (⟨numB h0, numB h1, List.replicate 136 0⟩ : Col).val) w6 fun w7 => Q_spec_l01Read_1 K (p, sd, ptr b 0, ()) w7 := by
    intro w5 w6 b e5 n6
    subst e5
    have e6 := n6.here; have s6 := n6.size
    have hpb : p ≠ ptr b 0 := hv4.ne (Nat.le_of_eq e6.symm)
    have ob := o24.lt
    refine stA0 yC n6.at_ (by simp [Col.cells, zC, zA]) (by simp [Col.cells, zC, zA]) (Col.cells_one _) fun w7 m7 s7 h7 => ?_
    have S : Rd w w7 p b (numB h0) (numB h1) [] := ⟨(q04.trans (n6.below.mono q04.size)).trans (m7.below (by omega) (by simp; omega)), (hv4.keep n6.below).mod m7 hpb, h7, by omega, hpb⟩
    refine rd1 (J := Q_spec_l01Read_2 K) hK hl S ((o24.keep n6.below).mod m7 (by simp; omega)) (by omega) hpd hAR hA fun w8 rv br g2 g17 k1 k4 hrl S8 o8 hbr => ?_
    refine rd2 hK g2 g17 k1 k4 hrl S8 o8 hbr ?_ fun c' ho hi ec => ?_
    · rw [jn_splitA, List.nil_append, ← num_is (s := h0) (by omega) (by omega), ← num_is (s := h1) (by omega) (by omega), ← hAj]
      exact hjt
    · have e1 := split_text hi ho
      rw [← ec, hAR] at e1
      injection e1 with ea e1
      injection e1 with er _
      have e2 := split_head hi
      rw [← ea, hA] at e2
      injection e2 with e0 e2
      injection e2 with e1 _
      have a := num_dec ⟨_, (fin_n hi).1⟩
      have b := num_dec ⟨_, (fin_n hi).2⟩
      simp only at a b
      have en : c'.n = numB h0 := by rw [e0, a]; have := hi.1; omega
      have ek : c'.k = numB h1 := by rw [e1, b]; have := hi.2.2.1; omega
      refine ⟨en, ek, ?_⟩
      have : splitA 44 [] R = rowsT c' (c'.n.toNat - 1) := by rw [er, split_tail hi ho (by omega)]
      rw [this, rowsT_len]
  refine atTs o34.sl (by omega) (by simp) fun s hs => ?_
  obtain rfl : h0 = s := by simpa using hs
  refine atTs o34.sl (by omega) (by simp) fun s hs => ?_
  obtain rfl : h1 = s := by simpa using hs
  have R4 := Below.refl w4.heap.size w4
  refine ⟨c_spec_l01Number l0 ⟨R4, ⟨c_spec_l01Number l1 ⟨R4, ⟨build2 ⟨R4, allocA yC fun b w6 n6 => ⟨n6.below, fin rfl n6⟩⟩, allocA yC fun b w6 n6 => ⟨n6.below, build2 ⟨n6.below, fin rfl n6⟩⟩⟩⟩, allocA yC fun b w6 n6 => ⟨n6.below, c_spec_l01Number l1 ⟨n6.below, build2 ⟨n6.below, fin rfl n6⟩⟩⟩⟩⟩, allocA yC fun b w6 n6 => ⟨n6.below, c_spec_l01Number l0 ⟨n6.below, c_spec_l01Number l1 ⟨n6.below, build2 ⟨n6.below, fin rfl n6⟩⟩⟩⟩⟩

end Go.Proofs.YtmecbbanklffgaaDoor

/- The reading of spec_ParseColouring, and its contract. No condition. -/
namespace Go.Proofs.YtmecbbanklffgaaDoor
open Go Go.RowKit Eng Mem
set_option linter.unusedVariables false
set_option maxRecDepth 100000
def V_spec_ParseColouring (text0 : ByteArray) (w : World) (K : (Value × Int) → World → Prop) : Prop :=
  (Pr Tryd.prog (Instr.alloc 24 true (.tuple #[])) w (.one .any) fun (x2_2 : Value) w_1 => (Fc Tryd.prog 7 #[(.string text0)] w_1 (.two .any .bool) fun (x8_4 : Value × Bool) w_3 => (Pr Tryd.prog (Instr.alloc 24 true (.tuple #[])) w_3 (.one .any) fun (out4_6 : Value) w_5 => (PrU Tryd.prog (Instr.storeAt 24 out4_6 x8_4.1) w_5 fun w_7 => (((!x8_4.2) = true → (Pr Tryd.prog (Instr.build 24 #[]) w_7 (.one .any) fun (x13_10 : Value) w_9 => (PrU Tryd.prog (Instr.storeAt 24 x2_2 x13_10) w_9 fun w_11 => (QSub Tryd.prog (Instr.loadAt 24 x2_2) w_11 .any fun (r_13 : Value) => K ((r_13 : Value), (6 : Int)) w_11)))) ∧ ((!x8_4.2) = false → (QSub Tryd.prog (Instr.loadAt 24 out4_6) w_7 .any fun (x14_14 : Value) => (PrU Tryd.prog (Instr.storeAt 24 x2_2 x14_14) w_7 fun w_15 => (QSub Tryd.prog (Instr.loadAt 24 x2_2) w_15 .any fun (r_17 : Value) => K ((r_17 : Value), (0 : Int)) w_15)))))))))

theorem eq_spec_ParseColouring (text0 : ByteArray) (w : World) (K : (Value × Int) → World → Prop) :
    W Tryd.prog ty (fun _ _ _ _ => False) (bodyOf Tryd.f4) (fnPost Tryd.prog Tryd.f4.results.toList (.two .any (.int .i64)) K) (frame0 [(.string text0)] 15) w = V_spec_ParseColouring text0 w K := by
  kernel_rfl

theorem body_spec_ParseColouring : Tryd.f4.body = some (bodyOf Tryd.f4) := by kernel_rfl
theorem name_spec_ParseColouring : (Tryd.f4.name == "runtime.NumGoroutine") = false := by kernel_rfl

theorem walk_spec_ParseColouring (text0 : ByteArray) {w : World} {K : (Value × Int) → World → Prop} (h : V_spec_ParseColouring text0 w K) : Fc Tryd.prog 4 #[(.string text0)] w (.two .any (.int .i64)) K :=
  fn_ok follows (sound_none _) Tryd.func4 name_spec_ParseColouring body_spec_ParseColouring Tryd.ntmps4 [(.string text0)] (Eq.mpr (eq_spec_ParseColouring text0 w K) h)

-- uses S9PrsR
theorem c_spec_ParseColouring {t : BL} {w : World} {K : Value × Int → World → Prop} (hl : t.length ≤ 1048576) (hK : ∀ w' c m, Below w.heap.size w w' → c.Ok → Res t c m → K (c.val, m) w') :
    Fc Tryd.prog F_spec_ParseColouring #[.string (bs t)] w (.two .any (.int .i64)) K := by
  refine walk_spec_ParseColouring _ (c_alloc fun p w1 q1 hv => c_spec_l01Read hl fun w2 c b q2 ho ht hf => ?_)
  have z1 := q1.size
  refine col_var ho fun b3 w3 hb3 lt3 q3 at3 => ?_
  have q13 := q2.trans (q3.mono q2.size)
  have q03 := q1.trans (q13.mono z1)
  have hv3 := (hv.keep q2).keep q3
  cases b with
  | false =>
    refine ⟨fun _ => ?_, fun e => (by cases e)⟩
    exact c_none (K := fun r w' => K (r, 6) w') hv3 q03.size fun w' q' => hK w' col0 6 (q03.trans q') col0_ok (.inr ⟨rfl, rfl, hf rfl⟩)
  | true =>
    refine ⟨fun e => (by cases e), fun _ => ?_⟩
    obtain ⟨hi, e⟩ := ht rfl
    exact col_all ho at3 (c_ret (K := fun r w' => K (r, 0) w') ho hv3 q03.size fun w' q' => hK w' c 0 (q03.trans q') ho (.inl ⟨rfl, ho, hi, e⟩))

end Go.Proofs.YtmecbbanklffgaaDoor

/- The reading of laws_FnExactParseColouring, and its contract. No condition. -/
namespace Go.Proofs.YtmecbbanklffgaaDoor
open Go Go.RowKit Eng Mem
set_option linter.unusedVariables false
set_option maxRecDepth 100000
def V_laws_FnExactParseColouring (aText0 : ByteArray) (w : World) (K : Bool → World → Prop) : Prop :=
  (QAll Tryd.prog (Builtin.len_ #[9] 3 #[(.string aText0)]) (.int .i64) fun (x8_1 : Int) => (((decide (x8_1 > (1048576 : Int))) = true → K true w) ∧ ((decide (x8_1 > (1048576 : Int))) = false → (Fc Tryd.prog 4 #[(.string aText0)] w (.two .any (.int .i64)) fun (x12_3 : Value × Int) w_2 => (Pr Tryd.prog (Instr.alloc 24 true (.tuple #[])) w_2 (.one .any) fun (w03_5 : Value) w_4 => (PrU Tryd.prog (Instr.storeAt 24 w03_5 x12_3.1) w_4 fun w_6 => (Fc Tryd.prog 5 #[(.string aText0)] w_6 (.two .any (.int .i64)) fun (x17_9 : Value × Int) w_8 => (Pr Tryd.prog (Instr.alloc 24 true (.tuple #[])) w_8 (.one .any) fun (g05_11 : Value) w_10 => (PrU Tryd.prog (Instr.storeAt 24 g05_11 x17_9.1) w_10 fun w_12 => (QSub Tryd.prog (Instr.loadAt 24 g05_11) w_12 .any fun (x20_14 : Value) => (QSub Tryd.prog (Instr.loadAt 24 w03_5) w_12 .any fun (x21_15 : Value) => (Fc Tryd.prog 6 #[x20_14, x21_15] w_12 (.one .bool) fun (x22_17 : Bool) w_16 => (((!x22_17) = true → K false w_16) ∧ ((!x22_17) = false → (((x17_9.2 != x12_3.2) = true → K false w_16) ∧ ((x17_9.2 != x12_3.2) = false → K true w_16))))))))))))))))

theorem eq_laws_FnExactParseColouring (aText0 : ByteArray) (w : World) (K : Bool → World → Prop) :
    W Tryd.prog ty (fun _ _ _ _ => False) (bodyOf Tryd.f3) (fnPost Tryd.prog Tryd.f3.results.toList (.one .bool) K) (frame0 [(.string aText0)] 29) w = V_laws_FnExactParseColouring aText0 w K := by
  kernel_rfl

theorem body_laws_FnExactParseColouring : Tryd.f3.body = some (bodyOf Tryd.f3) := by kernel_rfl
theorem name_laws_FnExactParseColouring : (Tryd.f3.name == "runtime.NumGoroutine") = false := by kernel_rfl

theorem walk_laws_FnExactParseColouring (aText0 : ByteArray) {w : World} {K : Bool → World → Prop} (h : V_laws_FnExactParseColouring aText0 w K) : Fc Tryd.prog 3 #[(.string aText0)] w (.one .bool) K :=
  fn_ok follows (sound_none _) Tryd.func3 name_laws_FnExactParseColouring body_laws_FnExactParseColouring Tryd.ntmps3 [(.string aText0)] (Eq.mpr (eq_laws_FnExactParseColouring aText0 w K) h)

-- uses S9PrsR
theorem c_laws_FnExactParseColouring {t : BL} {w : World} {K : Bool → World → Prop} (g : Gl w) (hK : ∀ w', Below w.heap.size w w' → K true w') : Fc Tryd.prog F_laws_FnExactParseColouring #[.string (bs t)] w (.one .bool) K := by
  refine walk_laws_FnExactParseColouring _ (lenT ⟨fun _ => hK w (Below.refl _ _), fun hl => ?_⟩)
  have hl := dec_f hl
  have hl : t.length ≤ 1048576 := by omega
  refine c_spec_ParseColouring hl fun w1 c m q1 ho hr => col_var ho fun b2 w2 hb2 lt2 q2 at2 => ?_
  have q12 := q1.trans (q2.mono q1.size)
  refine c_impl_ParseColouring (g.keep q12) hl fun w3 c' m' q3 ho' hr' => col_var ho' fun b4 w4 hb4 lt4 q4 at4 => ?_
  obtain ⟨rfl, rfl⟩ := res_one hr hr'
  have q34 := q3.trans (q4.mono q3.size)
  refine col_all ho' at4 (col_all ho (at2.keep q34) (c_laws_eqColouring ho' ho fun w5 q5 => ?_))
  have qq := (q12.trans (q34.mono q12.size))
  refine ⟨fun e => absurd rfl (notd_t e), fun _ => ⟨fun e => absurd rfl (ne_t e), fun _ => hK w5 (qq.trans (q5.mono qq.size))⟩⟩

end Go.Proofs.YtmecbbanklffgaaDoor
