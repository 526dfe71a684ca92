/- Colourings with their points renumbered. No condition. -/
import Derived.Test.YtdkodhonaoecnaaS8Deg
import Derived.Test.YtdkodhonaoecnaaS6Pair
namespace Go.Proofs.Ytdkodhonaoecnaa
open Go Go.RowKit Eng Mem
set_option maxRecDepth 100000
/-- The edges, when so many are put. -/
def renE (x : Col) (p : List Int) : Nat → List Int
  | 0 => List.replicate 136 0
  | m + 1 => (renE x p m).set (num (p.getD (pi m).toNat 0) (p.getD (pj m).toNat 0)).toNat (colAt x (pi m) (pj m))
theorem renE_len (x : Col) (p : List Int) (m : Nat) : (renE x p m).length = 136 := by
  induction m with
  | zero => simp [renE]
  | succ m ih => rw [renE, List.length_set, ih]
theorem renE_byte {x : Col} (h : x.Ok) (p : List Int) (m : Nat) : ∀ e ∈ renE x p m, 0 ≤ e ∧ e < 256 := by
  induction m with
  | zero => intro e he; have := List.eq_of_mem_replicate he; omega
  | succ m ih =>
    intro e he
    rw [renE] at he
    rcases List.mem_or_eq_of_mem_set he with h1 | h1
    · exact ih e h1
    · rw [h1]; exact h.e_bd _
def renC (x : Col) (p : List Int) : Col := ⟨x.n, x.k, renE x p (edgesOf x.n).toNat⟩
theorem renC_ok {x : Col} (h : x.Ok) (p : List Int) : (renC x p).Ok := ⟨renE_len _ _ _, renE_byte h _ _, h.n0, h.n1, h.k0, h.k1⟩
theorem renE_succ (x : Col) (p : List Int) {i j : Int} (h0 : 0 ≤ i) (h1 : i < j) (h2 : j ≤ 16) :
    renE x p (edgesOf j + (i + 1)).toNat = (renE x p (edgesOf j + i).toNat).set (num (p.getD i.toNat 0) (p.getD j.toNat 0)).toNat (colAt x i j) := by
  have hn := enum_lt h0 h1 (n := 17) (by omega) (by omega)
  have hp := pair_enum h0 h1 h2
  have he : (enum i j).toNat = (edgesOf j + i).toNat := rfl
  have hee := enum_eq i j
  rw [show (edgesOf j + (i + 1)).toNat = (enum i j).toNat + 1 from by omega, renE, ← he, hp.1, hp.2]
/-- A list of points, no two alike, so many. -/
structure PermL (p : List Int) (n : Int) : Prop where
  len : (p.length : Int) = n
  bd : ∀ i : Nat, (i : Int) < n → 0 ≤ p.getD i 0 ∧ p.getD i 0 < n
  ne : ∀ i j : Nat, i < j → (j : Int) < n → p.getD i 0 ≠ p.getD j 0
/-- The points turned. -/
def turnL (n t : Int) (m : Nat) : List Int := (List.range m).map fun i : Nat => t * i % n
theorem turn_ne {n t i j : Nat} (h : Nat.gcd t n = 1) (h1 : i < j) (h2 : j < n) : t * i % n ≠ t * j % n := fun e => by
  have d : n ∣ t * (j - i) := by rw [Nat.mul_sub]; exact Nat.dvd_of_mod_eq_zero (Nat.sub_mod_eq_zero_of_mod_eq e.symm)
  have := Nat.le_of_dvd (by omega) (Nat.Coprime.dvd_of_dvd_mul_left (Nat.Coprime.symm h) d)
  omega
theorem turnL_get (n t : Int) {m i : Nat} (h : i < m) : (turnL n t m).getD i 0 = t * i % n := by simp [turnL, h]
theorem turnL_succ (n t : Int) (m : Nat) : turnL n t (m + 1) = turnL n t m ++ [t * m % n] := by simp [turnL, List.range_succ]
theorem turnL_perm {n t : Int} (n0 : 1 ≤ n) (t0 : 0 ≤ t) (h : Nat.gcd t.toNat n.toNat = 1) : PermL (turnL n t n.toNat) n := by
  refine ⟨by simp [turnL]; omega, fun i hi => ?_, fun i j hi hj => ?_⟩
  · rw [turnL_get n t (by omega)]
    exact ⟨Int.emod_nonneg _ (by omega), Int.emod_lt_of_pos _ (by omega)⟩
  · rw [turnL_get n t (by omega), turnL_get n t (by omega)]
    have := turn_ne h hi (by omega)
    obtain ⟨a, rfl⟩ : ∃ a : Nat, n = a := ⟨n.toNat, by omega⟩
    obtain ⟨b, rfl⟩ : ∃ b : Nat, t = b := ⟨t.toNat, by omega⟩
    simp only [Int.toNat_natCast] at this
    exact_mod_cast this
def TurnIs (n t : Int) : Prop := (1 ≤ t ∧ t ≤ if 1 > n - 1 then 1 else n - 1) ∧ Nat.gcd t.toNat n.toNat = 1
instance (n t : Int) : Decidable (TurnIs n t) := by unfold TurnIs; infer_instance
def turnF (x : Col) (t : Int) : Col × Int := if x.Is then (if TurnIs x.n t then (renC x (turnL x.n t x.n.toNat), 0) else (col0, 2)) else (col0, 1)
theorem turnF_ok {x : Col} (h : x.Ok) (t : Int) : (turnF x t).1.Ok := by
  unfold turnF
  split
  · split
    · exact renC_ok h _
    · exact col0_ok
  · exact col0_ok
end Go.Proofs.Ytdkodhonaoecnaa
