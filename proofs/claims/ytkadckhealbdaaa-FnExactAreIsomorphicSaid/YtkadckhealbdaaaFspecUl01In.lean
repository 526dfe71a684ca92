/- The reading of spec_l01In, and its contract. No condition. -/
import Derived.Test.YtkadckhealbdaaaTy
namespace Go.Proofs.Ytkadckhealbdaaa
open Go Go.RowKit Eng Mem
set_option linter.unusedVariables false
set_option maxRecDepth 100000
def V_spec_l01In (n0 : Int) (low1 : Int) (high2 : Int) (w : World) (K : Bool → World → Prop) : Prop :=
  (((decide (n0 ≥ low1)) = true → K (decide (n0 ≤ high2)) w) ∧ ((decide (n0 ≥ low1)) = false → K false w))

theorem eq_spec_l01In (n0 : Int) (low1 : Int) (high2 : Int) (w : World) (K : Bool → World → Prop) :
    W Try.prog ty (fun _ _ _ _ => False) (bodyOf Try.f43) (fnPost Try.prog Try.f43.results.toList (.one .bool) K) (frame0 [(.int .i64 n0), (.int .i64 low1), (.int .i64 high2)] 15) w = V_spec_l01In n0 low1 high2 w K := by
  kernel_rfl

theorem body_spec_l01In : Try.f43.body = some (bodyOf Try.f43) := by kernel_rfl
theorem name_spec_l01In : (Try.f43.name == "runtime.NumGoroutine") = false := by kernel_rfl

theorem walk_spec_l01In (n0 : Int) (low1 : Int) (high2 : Int) {w : World} {K : Bool → World → Prop} (h : V_spec_l01In n0 low1 high2 w K) : Fc Try.prog 43 #[(.int .i64 n0), (.int .i64 low1), (.int .i64 high2)] w (.one .bool) K :=
  fn_ok follows (sound_none _) Try.func43 name_spec_l01In body_spec_l01In Try.ntmps43 [(.int .i64 n0), (.int .i64 low1), (.int .i64 high2)] (Eq.mpr (eq_spec_l01In n0 low1 high2 w K) h)

theorem c_spec_l01In (n lo hi : Int) {w : World} {K : Bool → World → Prop} (hK : K (decide (lo ≤ n ∧ n ≤ hi)) w) : Fc Try.prog F_spec_l01In #[.int .i64 n, .int .i64 lo, .int .i64 hi] w (.one .bool) K := by
  refine walk_spec_l01In n lo hi ⟨fun h => ?_, fun h => ?_⟩
  · have h := of_decide_eq_true h
    simpa [h] using hK
  · have h := of_decide_eq_false h
    have : ¬ lo ≤ n := h
    simpa [this] using hK

end Go.Proofs.Ytkadckhealbdaaa
