/- What AngleNumber and IsBalanced answer. No condition. -/
import Derived.Test.YtdkodhonaoecnaaS8Deg
namespace Go.Proofs.Ytdkodhonaoecnaa
open Go Go.RowKit Eng Mem
set_option maxRecDepth 100000
def sumN (f : Nat → Int) : Nat → Int
  | 0 => 0
  | n + 1 => sumN f n + f n
theorem sumN_congr {f g : Nat → Int} {n : Nat} (h : ∀ i, i < n → f i = g i) : sumN f n = sumN g n := by
  induction n with
  | zero => rfl
  | succ n ih => rw [sumN, sumN, ih fun i hi => h i (by omega), h n (by omega)]
theorem sumN_bd {f : Nat → Int} {n : Nat} {M : Int} (h : ∀ i, i < n → 0 ≤ f i ∧ f i ≤ M) : 0 ≤ sumN f n ∧ sumN f n ≤ n * M := by
  induction n with
  | zero => simp [sumN]
  | succ n ih =>
    have h1 := ih fun i hi => h i (by omega)
    have h2 := h n (by omega)
    rw [sumN, Int.natCast_succ, Int.add_mul]
    omega
theorem sumN_zero (n : Nat) : sumN (fun _ => 0) n = 0 := by
  induction n with
  | zero => rfl
  | succ n ih => rw [sumN, ih]; rfl
theorem sumN_add (f g : Nat → Int) (n : Nat) : sumN (fun i => f i + g i) n = sumN f n + sumN g n := by
  induction n with
  | zero => rfl
  | succ n ih => rw [sumN, sumN, sumN, ih]; omega
theorem sumN_swap (f : Nat → Nat → Int) (m n : Nat) : sumN (fun a => sumN (fun b => f a b) n) m = sumN (fun b => sumN (fun a => f a b) m) n := by
  induction m with
  | zero => simp [sumN, sumN_zero]
  | succ m ih => rw [sumN, ih, ← sumN_add]; rfl
/-- The product of the degrees of a point in two colours. -/
def dd (x : Col) (p c d : Nat) : Int := (degN x p c : Int) * (degN x p d : Int)
theorem dd_bd {x : Col} (h : x.n ≤ 17) (p c d : Nat) : 0 ≤ dd x p c d ∧ dd x p c d ≤ 289 := by
  have h1 := degN_le x p c
  have h2 := degN_le x p d
  have h3 : x.n.toNat ≤ 17 := by omega
  unfold dd
  have := Nat.mul_le_mul (Nat.le_trans h1 h3) (Nat.le_trans h2 h3)
  exact ⟨by omega, by exact_mod_cast this⟩
def angN (x : Col) : Int := sumN (fun p => sumN (fun c => sumN (fun d => dd x p c d) c) x.k.toNat) x.n.toNat
theorem angN_eq (x : Col) : angN x = sumN (fun c => sumN (fun d => sumN (fun p => dd x p c d) x.n.toNat) c) x.k.toNat := by
  unfold angN
  rw [sumN_swap]
  exact sumN_congr fun c _ => sumN_swap _ _ _
def angF (x : Col) : Int × Int := if x.Is then (angN x, 0) else (0, 1)
def Bal (x : Col) : Prop := ∀ c : Nat, c < x.k.toNat → ∀ i : Nat, i < x.n.toNat → degN x i c = degN x 0 c
instance (x : Col) : Decidable (Bal x) := by unfold Bal; infer_instance
def balF (x : Col) : Bool × Int := if x.Is then (decide (Bal x), 0) else (false, 1)
/-- The degrees of all points in a colour. -/
def degL (x : Col) (c : Int) : List Int := (List.range x.n.toNat).map fun i : Nat => (degN x i c : Int)
theorem degL_len (x : Col) (c : Int) : (degL x c).length = x.n.toNat := by simp [degL]
theorem degL_get (x : Col) (c : Int) {i : Nat} (h : i < x.n.toNat) : (degL x c).getD i 0 = (degN x i c : Int) := by simp [degL, h]
end Go.Proofs.Ytdkodhonaoecnaa
