/- Renumberings that lead a colouring to another one. No condition. -/
import Derived.Test.YtkadckhealbdaaaS8Deg
namespace Go.Proofs.Ytkadckhealbdaaa
open Go Go.RowKit Eng Mem
set_option maxRecDepth 100000
/-- May the next point go to j? -/
def sameD (x y : Col) (i j : Int) : Bool := decide (∀ c : Nat, c < x.k.toNat → degN x i c = degN y j c)
def fitsD (x y : Col) (p : List Int) (j : Int) : Bool := decide (∀ m : Nat, m < p.length → p.getD m 0 ≠ j ∧ colAt x m p.length = colAt y (p.getD m 0) j)
def isoF (x y : Col) : Nat → List Int → Option (List Int)
  | 0, p => some p
  | f + 1, p => (List.range y.n.toNat).findSome? fun j : Nat => if sameD x y p.length j && fitsD x y p j then isoF x y f (p ++ [(j : Int)]) else none
/-- From the image j on. -/
def isoR (x y : Col) (f : Nat) (p : List Int) (j : Nat) : Option (List Int) :=
  ((List.range y.n.toNat).drop j).findSome? fun j : Nat => if sameD x y p.length j && fitsD x y p j then isoF x y f (p ++ [(j : Int)]) else none
theorem isoF_succ (x y : Col) (f : Nat) (p : List Int) : isoF x y (f + 1) p = isoR x y f p 0 := by rw [isoF, isoR, List.drop_zero]
theorem isoR_end (x y : Col) (f : Nat) (p : List Int) : isoR x y f p y.n.toNat = none := by
  unfold isoR; rw [List.drop_of_length_le (by simp)]; rfl
theorem isoR_step (x y : Col) (f : Nat) (p : List Int) {j : Nat} (h : j < y.n.toNat) :
    isoR x y f p j = if sameD x y p.length j && fitsD x y p j then (match isoF x y f (p ++ [(j : Int)]) with | some l => some l | none => isoR x y f p (j + 1)) else isoR x y f p (j + 1) := by
  unfold isoR
  rw [List.drop_eq_getElem_cons (by simpa using h), List.getElem_range, List.findSome?_cons]
  by_cases hc : sameD x y p.length j && fitsD x y p j
  · rw [if_pos hc, if_pos hc]
    cases isoF x y f (p ++ [(j : Int)]) <;> rfl
  · rw [if_neg hc, if_neg hc]
theorem isoR_skip {x y : Col} {f : Nat} {p : List Int} {j : Nat} (h : j < y.n.toNat) (hn : ¬ (sameD x y p.length j = true ∧ fitsD x y p j = true)) : isoR x y f p j = isoR x y f p (j + 1) := by
  rw [isoR_step x y f p h, if_neg (by simpa using hn)]
theorem isoR_go {x y : Col} {f : Nat} {p : List Int} {j : Nat} (h : j < y.n.toNat) (h1 : sameD x y p.length j = true) (h2 : fitsD x y p j = true) :
    isoR x y f p j = (match isoF x y f (p ++ [(j : Int)]) with | some l => some l | none => isoR x y f p (j + 1)) := by
  rw [isoR_step x y f p h, if_pos (by simp [h1, h2])]
/-- The number for the degrees of a point. -/
def typeN (x : Col) (i : Int) : Nat → Int
  | 0 => 0
  | c + 1 => typeN x i c * 18 + degN x i c
theorem typeN_bd {x : Col} (h : x.n ≤ 17) (i : Int) (c : Nat) : 0 ≤ typeN x i c ∧ typeN x i c < 18 ^ c := by
  induction c with
  | zero => simp [typeN]
  | succ c ih =>
    have := degN_le x i c
    rw [typeN, Int.pow_succ]
    omega
theorem typeN_eq {x y : Col} (hx : x.n ≤ 17) (hy : y.n ≤ 17) (i j : Int) (k : Nat) : typeN x i k = typeN y j k ↔ ∀ c : Nat, c < k → degN x i c = degN y j c := by
  induction k with
  | zero => simp [typeN]
  | succ k ih =>
    have h1 := degN_le x i k
    have h2 := degN_le y j k
    rw [typeN, typeN]
    constructor
    · intro h c hc
      have e1 : degN x i k = degN y j k := by omega
      have e2 : typeN x i k = typeN y j k := by omega
      rcases Nat.lt_or_ge c k with h' | h'
      · exact ih.1 e2 c h'
      · have : c = k := by omega
        rw [this]; exact e1
    · intro h
      rw [ih.2 fun c hc => h c (by omega), h k (by omega)]
def isoOf (x y : Col) : Option (List Int) := if x.n = y.n ∧ x.k = y.k then isoF x y x.n.toNat [] else none
def areIso (x y : Col) : Bool × Int := if x.Is ∧ y.Is then ((isoOf x y).isSome, 0) else (false, 1)
def findI (x y : Col) : List Int × Int := if x.Is ∧ y.Is then (match isoOf x y with | some l => (l, 0) | none => ([], 4)) else ([], 1)
end Go.Proofs.Ytkadckhealbdaaa
