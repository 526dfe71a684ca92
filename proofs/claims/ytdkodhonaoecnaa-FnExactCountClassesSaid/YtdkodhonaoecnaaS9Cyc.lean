/- The cycles of a renumbering on the edges; what CountClasses answers. No condition. -/
import Derived.Test.YtdkodhonaoecnaaS8Ord
import Derived.Test.YtdkodhonaoecnaaS8Clq
import Derived.Test.YtdkodhonaoecnaaS9Bal
namespace Go.Proofs.Ytdkodhonaoecnaa
open Go Go.RowKit Eng Mem
set_option maxRecDepth 100000
def updB (M : Nat → Bool) (e : Nat) : Nat → Bool := fun i => if i = e then true else M i
def walkM (p : List Int) : Nat → (Nat → Bool) → Int → Int → (Nat → Bool)
  | 0, M, _, _ => M
  | f + 1, M, i, j => if M (num i j).toNat then M else walkM p f (updB M (num i j).toNat) (p.getD i.toNat 0) (p.getD j.toNat 0)
def freeM (M : Nat → Bool) : Nat := (List.range 136).countP fun e => !M e
theorem freeM_le (M : Nat → Bool) : freeM M ≤ 136 := Nat.le_trans List.countP_le_length (by simp)
theorem freeM_upd {M : Nat → Bool} {e : Nat} (he : e < 136) (h : M e = false) : freeM (updB M e) < freeM M :=
  countP_less (a := e) (by simpa using he) (fun x _ hx => by
    unfold updB at hx
    split at hx
    · simp at hx
    · exact hx) (by simp [h]) (by simp [updB])
theorem num_symm (i j : Int) : num i j = num j i := by
  unfold num
  by_cases h : i < j
  · rw [if_pos h, if_neg (by omega)]
  · by_cases h' : j < i
    · rw [if_neg h, if_pos h']
    · rw [if_neg h, if_neg h', show i = j from by omega]
theorem walkM_symm (p : List Int) : ∀ (f : Nat) (M : Nat → Bool) (i j : Int), walkM p f M i j = walkM p f M j i
  | 0, _, _, _ => rfl
  | f + 1, M, i, j => by rw [walkM, walkM, num_symm j i, walkM_symm p f]
theorem walk_done {p : List Int} {M : Nat → Bool} {i j : Int} (f : Nat) (h : M (num i j).toNat = true) : walkM p f M i j = M := by
  cases f with
  | zero => rfl
  | succ f => rw [walkM, if_pos h]
theorem walk_step {p : List Int} {M : Nat → Bool} {i j : Int} {f : Nat} (he : (num i j).toNat < 136) (h : M (num i j).toNat = false) (hf : freeM M ≤ f) :
    ∃ f', freeM (updB M (num i j).toNat) ≤ f' ∧ walkM p f M i j = walkM p f' (updB M (num i j).toNat) (p.getD i.toNat 0) (p.getD j.toNat 0) := by
  have := freeM_upd he h
  match f, hf with
  | 0, hf => omega
  | f + 1, hf => exact ⟨f, by omega, by rw [walkM, if_neg (by simp [h])]⟩
def cycS (p : List Int) : Nat → Nat × (Nat → Bool)
  | 0 => (0, fun _ => false)
  | m + 1 => if (cycS p m).2 m then cycS p m else ((cycS p m).1 + 1, walkM p 136 (cycS p m).2 (pi m) (pj m))
theorem cycS_le (p : List Int) (m : Nat) : (cycS p m).1 ≤ m := by
  induction m with
  | zero => simp [cycS]
  | succ m ih =>
    rw [cycS]
    split
    · omega
    · simp only; omega
def cycN (p : List Int) (n : Int) : Nat := (cycS p (edgesOf n).toNat).1
/-- One more edge. -/
theorem cycS_met {p : List Int} {i j : Int} (h0 : 0 ≤ i) (h1 : i < j) (h2 : j ≤ 16) (h : (cycS p (edgesOf j + i).toNat).2 (num i j).toNat = true) : cycS p (edgesOf j + (i + 1)).toNat = cycS p (edgesOf j + i).toNat := by
  have hn := enum_lt h0 h1 (n := 17) (by omega) (by omega)
  have he : (enum i j).toNat = (edgesOf j + i).toNat := rfl
  have hee := enum_eq i j
  rw [num_of h1, he] at h
  rw [show (edgesOf j + (i + 1)).toNat = (edgesOf j + i).toNat + 1 from by omega, cycS, if_pos h]
theorem cycS_new {p : List Int} {i j : Int} (h0 : 0 ≤ i) (h1 : i < j) (h2 : j ≤ 16) (h : (cycS p (edgesOf j + i).toNat).2 (num i j).toNat = false) :
    cycS p (edgesOf j + (i + 1)).toNat = ((cycS p (edgesOf j + i).toNat).1 + 1, walkM p 136 (cycS p (edgesOf j + i).toNat).2 i j) := by
  have hn := enum_lt h0 h1 (n := 17) (by omega) (by omega)
  have hp := pair_enum h0 h1 h2
  have he : (enum i j).toNat = (edgesOf j + i).toNat := rfl
  have hee := enum_eq i j
  rw [num_of h1, he] at h
  rw [show (edgesOf j + (i + 1)).toNat = (edgesOf j + i).toNat + 1 from by omega, cycS, if_neg (by simp [h]), ← he, hp.1, hp.2]
def clsN (n k : Int) : Int := sumN (fun i => k ^ cycN ((ordF n.toNat n.toNat []).getD i []) n) (ordF n.toNat n.toNat []).length / (ordF n.toNat n.toNat []).length
def clsF (n k : Int) : Int × Int := if (1 ≤ n ∧ n ≤ 7) ∧ (1 ≤ k ∧ k ≤ 4) then (clsN n k, 0) else (0, 2)
end Go.Proofs.Ytdkodhonaoecnaa
