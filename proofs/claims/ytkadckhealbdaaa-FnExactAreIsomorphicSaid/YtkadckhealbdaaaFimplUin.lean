/- The reading of impl_in, and its contract. No condition. -/
import Derived.Test.YtkadckhealbdaaaTy
namespace Go.Proofs.Ytkadckhealbdaaa
open Go Go.RowKit Eng Mem
set_option linter.unusedVariables false
set_option maxRecDepth 100000
def V_impl_in (n0 : Int) (low1 : Int) (high2 : Int) (w : World) (K : Bool → World → Prop) : Prop :=
  (((decide (n0 ≥ low1)) = true → K (decide (n0 ≤ high2)) w) ∧ ((decide (n0 ≥ low1)) = false → K false w))

theorem eq_impl_in (n0 : Int) (low1 : Int) (high2 : Int) (w : World) (K : Bool → World → Prop) :
    W Try.prog ty (fun _ _ _ _ => False) (bodyOf Try.f54) (fnPost Try.prog Try.f54.results.toList (.one .bool) K) (frame0 [(.int .i64 n0), (.int .i64 low1), (.int .i64 high2)] 15) w = V_impl_in n0 low1 high2 w K := by
  kernel_rfl

theorem body_impl_in : Try.f54.body = some (bodyOf Try.f54) := by kernel_rfl
theorem name_impl_in : (Try.f54.name == "runtime.NumGoroutine") = false := by kernel_rfl

theorem walk_impl_in (n0 : Int) (low1 : Int) (high2 : Int) {w : World} {K : Bool → World → Prop} (h : V_impl_in n0 low1 high2 w K) : Fc Try.prog 54 #[(.int .i64 n0), (.int .i64 low1), (.int .i64 high2)] w (.one .bool) K :=
  fn_ok follows (sound_none _) Try.func54 name_impl_in body_impl_in Try.ntmps54 [(.int .i64 n0), (.int .i64 low1), (.int .i64 high2)] (Eq.mpr (eq_impl_in n0 low1 high2 w K) h)

theorem c_impl_in (n lo hi : Int) {w : World} {K : Bool → World → Prop} (hK : K (decide (lo ≤ n ∧ n ≤ hi)) w) : Fc Try.prog F_impl_in #[.int .i64 n, .int .i64 lo, .int .i64 hi] w (.one .bool) K := by
  refine walk_impl_in n lo hi ⟨fun h => ?_, fun h => ?_⟩
  · have h := of_decide_eq_true h
    simpa [h] using hK
  · have h := of_decide_eq_false h
    have : ¬ lo ≤ n := h
    simpa [this] using hK

end Go.Proofs.Ytkadckhealbdaaa
