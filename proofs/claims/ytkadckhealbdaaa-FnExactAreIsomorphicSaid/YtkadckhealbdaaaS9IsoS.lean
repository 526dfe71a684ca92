/- The reference's search for renumberings: its memory. No condition. -/
import Derived.Test.YtkadckhealbdaaaS9IsoM
import Derived.Test.YtkadckhealbdaaaS9Bit
namespace Go.Proofs.Ytkadckhealbdaaa
open Go Go.RowKit Eng Mem
set_option maxRecDepth 100000
def typesL (x : Col) (m : Nat) : List Int := (List.range m).map fun i : Nat => typeN x i x.k.toNat
theorem typesL_len (x : Col) (m : Nat) : (typesL x m).length = m := by simp [typesL]
theorem typesL_get (x : Col) {m i : Nat} (h : i < m) : (typesL x m).getD i 0 = typeN x i x.k.toNat := by simp [typesL, h]
theorem typesL_succ (x : Col) (m : Nat) : typesL x (m + 1) = typesL x m ++ [typeN x m x.k.toNat] := by simp [typesL, List.range_succ]
structure SrAt (w : World) (b : Nat) (x y : Col) (one two : Value) (most cnt : Int) (first : Value) : Prop where
  blk : Blk w b (srV x y one two most cnt first) tSr
theorem SrAt.keep {w w' : World} {b : Nat} {x y : Col} {one two first : Value} {most cnt : Int} (h : SrAt w b x y one two most cnt first) (q : Below w.heap.size w w') : SrAt w' b x y one two most cnt first := ⟨below_at q h.blk (at_lt h.blk)⟩
theorem SrAt.x {w : World} {b : Nat} {x y : Col} {one two first : Value} {most cnt : Int} (h : SrAt w b x y one two most cnt first) : ColAt w (ptr b 0) x := by
  have := (blk_row h.blk).sub 0 (us := x.cells) fun i hi => by rw [Nat.zero_add]; exact List.getElem?_append_left hi
  simpa [padd, add_none] using this
theorem SrAt.y {w : World} {b : Nat} {x y : Col} {one two first : Value} {most cnt : Int} (hx : x.Ok) (h : SrAt w b x y one two most cnt first) : ColAt w (ptr b 138) y := by
  have lx : x.cells.length = 138 := by simp [Col.cells, hx.len]
  have := (blk_row h.blk).sub 138 (us := y.cells) fun i hi => by
    unfold srV
    rw [List.getElem?_append_right (by omega), lx, show 138 + i - 138 = i from by omega, List.getElem?_append_left hi]
  simpa [padd, add_none] using this
theorem sr_tail {x y : Col} (hx : x.Ok) (hy : y.Ok) (one two : Value) (most cnt : Int) (first : Value) (k : Nat) : (srV x y one two most cnt first)[276 + k]? = [one, two, .int .i64 most, .int .i64 cnt, first][k]? := by
  have lx : x.cells.length = 138 := by simp [Col.cells, hx.len]
  have ly : y.cells.length = 138 := by simp [Col.cells, hy.len]
  unfold srV
  rw [List.getElem?_append_right (by omega), List.getElem?_append_right (by omega), lx, ly, show 276 + k - 138 - 138 = k from by omega]
theorem SrAt.tail {w : World} {b : Nat} {x y : Col} {one two first : Value} {most cnt : Int} (hx : x.Ok) (hy : y.Ok) (h : SrAt w b x y one two most cnt first) (k : Nat) {v : Value} (hv : [one, two, .int .i64 most, .int .i64 cnt, first][k]? = some v) : Cell w (ptr b (276 + k)) v := by
  have := (blk_row h.blk).get (276 + k) (v := v) (by rw [sr_tail hx hy]; exact hv)
  simpa [padd, add_none] using this
theorem SrAt.setc {w' : World} {b : Nat} {x y : Col} {one two first : Value} {most cnt c : Int} (hx : x.Ok) (hy : y.Ok) (h : Blk w' b ((srV x y one two most cnt first).set 279 (.int .i64 c)) tSr) : SrAt w' b x y one two most c first := by
  have lx : x.cells.length = 138 := by simp [Col.cells, hx.len]
  have ly : y.cells.length = 138 := by simp [Col.cells, hy.len]
  refine ⟨?_⟩
  have e : (srV x y one two most cnt first).set 279 (.int .i64 c) = srV x y one two most c first := by
    unfold srV
    rw [List.set_append_right _ _ (by omega), List.set_append_right _ _ (by omega), lx, ly]
    rfl
  rw [← e]; exact h
theorem SrAt.setf {w' : World} {b : Nat} {x y : Col} {one two first v : Value} {most cnt : Int} (hx : x.Ok) (hy : y.Ok) (h : Blk w' b ((srV x y one two most cnt first).set 280 v) tSr) : SrAt w' b x y one two most cnt v := by
  have lx : x.cells.length = 138 := by simp [Col.cells, hx.len]
  have ly : y.cells.length = 138 := by simp [Col.cells, hy.len]
  refine ⟨?_⟩
  have e : (srV x y one two most cnt first).set 280 v = srV x y one two most cnt v := by
    unfold srV
    rw [List.set_append_right _ _ (by omega), List.set_append_right _ _ (by omega), lx, ly]
    rfl
  rw [← e]; exact h
theorem bits_empty (j : Nat) : (0 : Nat).testBit j = decide ((j : Int) ∈ ([] : List Int)) := by simp
theorem bits_more {u : Nat} {p : List Int} {i : Nat} (h : ∀ j, u.testBit j = decide ((j : Int) ∈ p)) (j : Nat) : (u ||| 2 ^ i).testBit j = decide ((j : Int) ∈ p ++ [(i : Int)]) := by
  rw [Nat.testBit_or, h j, Nat.testBit_two_pow]
  by_cases he : i = j
  · subst he; simp
  · simp [he, show (j : Int) ≠ i from by omega]
theorem fits_out {x y : Col} {p : List Int} {j : Int} (h : j ∈ p) : fitsD x y p j = false := by
  unfold fitsD
  refine decide_eq_false fun hh => ?_
  obtain ⟨m, hm, he⟩ := List.getElem_of_mem h
  exact (hh m hm).1 (by simp [List.getD, hm, he])
theorem isoF_len {x y : Col} : ∀ (f : Nat) (p l : List Int), isoF x y f p = some l → l.length = p.length + f
  | 0, p, l, h => by rw [isoF] at h; injection h with h; rw [← h]; rfl
  | f + 1, p, l, h => by
    rw [isoF] at h
    obtain ⟨j, _, h⟩ := List.exists_of_findSome?_eq_some h
    split at h
    · have := isoF_len f _ l h
      simp at this
      omega
    · cases h
theorem iso_len {x y : Col} {l : List Int} (h : isoOf x y = some l) : l.length = x.n.toNat := by
  unfold isoOf at h
  split at h
  · have := isoF_len _ _ _ h
    simpa using this
  · cases h
end Go.Proofs.Ytkadckhealbdaaa
