/- The reading of impl_isTurn, and its contract. No condition. -/
import Derived.Test.YtdkodhonaoecnaaTy
import Derived.Test.YtdkodhonaoecnaaS8Ren
import Derived.Test.YtdkodhonaoecnaaFimplUdivisor
import Derived.Test.YtdkodhonaoecnaaFimplUin
namespace Go.Proofs.Ytdkodhonaoecnaa
open Go Go.RowKit Eng Mem
set_option linter.unusedVariables false
set_option maxRecDepth 100000
def V_impl_isTurn (n0 : Int) (t1 : Int) (w : World) (K : Bool → World → Prop) : Prop :=
  (((n0 == (1 : Int)) = true → (((t1 == (1 : Int)) = true → K true w) ∧ ((t1 == (1 : Int)) = false → (Fc Try.prog 48 #[(.int .i64 t1), (.int .i64 (1 : Int)), (.int .i64 (IntKind.i64.wrap (n0 - (1 : Int))))] w (.one .bool) fun (x15_2 : Bool) w_1 => ((x15_2 = true → (Fc Try.prog 121 #[(.int .i64 t1), (.int .i64 n0)] w_1 (.one (.int .i64)) fun (x19_4 : Int) w_3 => K (x19_4 == (1 : Int)) w_3)) ∧ (x15_2 = false → K false w_1)))))) ∧ ((n0 == (1 : Int)) = false → (Fc Try.prog 48 #[(.int .i64 t1), (.int .i64 (1 : Int)), (.int .i64 (IntKind.i64.wrap (n0 - (1 : Int))))] w (.one .bool) fun (x15_6 : Bool) w_5 => ((x15_6 = true → (Fc Try.prog 121 #[(.int .i64 t1), (.int .i64 n0)] w_5 (.one (.int .i64)) fun (x19_8 : Int) w_7 => K (x19_8 == (1 : Int)) w_7)) ∧ (x15_6 = false → K false w_5)))))

theorem eq_impl_isTurn (n0 : Int) (t1 : Int) (w : World) (K : Bool → World → Prop) :
    W Try.prog ty (fun _ _ _ _ => False) (bodyOf Try.f90) (fnPost Try.prog Try.f90.results.toList (.one .bool) K) (frame0 [(.int .i64 n0), (.int .i64 t1)] 23) w = V_impl_isTurn n0 t1 w K := by
  kernel_rfl

theorem body_impl_isTurn : Try.f90.body = some (bodyOf Try.f90) := by kernel_rfl
theorem name_impl_isTurn : (Try.f90.name == "runtime.NumGoroutine") = false := by kernel_rfl

theorem walk_impl_isTurn (n0 : Int) (t1 : Int) {w : World} {K : Bool → World → Prop} (h : V_impl_isTurn n0 t1 w K) : Fc Try.prog 90 #[(.int .i64 n0), (.int .i64 t1)] w (.one .bool) K :=
  fn_ok follows (sound_none _) Try.func90 name_impl_isTurn body_impl_isTurn Try.ntmps90 [(.int .i64 n0), (.int .i64 t1)] (Eq.mpr (eq_impl_isTurn n0 t1 w K) h)

-- uses S8Ren
theorem c_impl_isTurn {n t : Int} {w : World} {K : Bool → World → Prop} (n0 : 1 ≤ n) (n1 : n ≤ 17) (hK : ∀ w', Below w.heap.size w w' → K (decide (TurnIs n t)) w') : Fc Try.prog F_impl_isTurn #[.int .i64 n, .int .i64 t] w (.one .bool) K := by
  have yes : TurnIs n t → ∀ w', Below w.heap.size w w' → K true w' := fun h w' q => by rw [← decide_eq_true h]; exact hK w' q
  have no : ¬ TurnIs n t → ∀ w', Below w.heap.size w w' → K false w' := fun h w' q => by rw [← decide_eq_false h]; exact hK w' q
  have gcd : ∀ (hh : 1 ≤ t ∧ t ≤ n - 1) (w' : World), Below w.heap.size w w' → Fc Try.prog F_impl_divisor #[.int .i64 t, .int .i64 n] w' (.one (.int .i64)) fun x w2 => K (x == 1) w2 := fun hh w' q => by
    have h := c_impl_divisor (a := t.toNat) (b := n.toNat) (w := w') (K := fun x w2 => K (x == 1) w2) (by omega) (by omega) fun w2 q2 => by
      by_cases hg : Nat.gcd t.toNat n.toNat = 1
      · rw [hg]
        exact yes ⟨⟨hh.1, by split <;> omega⟩, hg⟩ w2 (q.trans (q2.mono q.size))
      · rw [show (((Nat.gcd t.toNat n.toNat : Nat) : Int) == 1) = false from by simp; omega]
        exact no (fun h => hg h.2) w2 (q.trans (q2.mono q.size))
    rwa [show ((t.toNat : Nat) : Int) = t from by omega, show ((n.toNat : Nat) : Int) = n from by omega] at h
  refine walk_impl_isTurn _ _ ?_
  unfold V_impl_isTurn
  rw [wrap_small (by omega) (by omega)]
  have rest : n ≠ 1 ∨ t ≠ 1 → Fc Try.prog F_impl_in #[.int .i64 t, .int .i64 1, .int .i64 (n - 1)] w (.one .bool) fun x w1 => (x = true → Fc Try.prog F_impl_divisor #[.int .i64 t, .int .i64 n] w1 (.one (.int .i64)) fun y w2 => K (y == 1) w2) ∧ (x = false → K false w1) := fun hnt => by
    refine c_impl_in _ _ _ ⟨fun h => gcd (dec_t h) w (Below.refl _ _), fun h => no (fun hh => dec_f h ⟨hh.1.1, ?_⟩) w (Below.refl _ _)⟩
    have := hh.1
    split at this <;> omega
  refine ⟨fun h1 => ⟨fun h2 => ?_, fun h2 => rest (.inr (eq_f h2))⟩, fun h1 => rest (.inl (eq_f h1))⟩
  have h1 := eq_t h1; have h2 := eq_t h2
  subst h1; subst h2
  exact yes (by decide) w (Below.refl _ _)

end Go.Proofs.Ytdkodhonaoecnaa
