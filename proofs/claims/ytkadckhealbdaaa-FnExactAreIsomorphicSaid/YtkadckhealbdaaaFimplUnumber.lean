/- The reading of impl_number, and its contract. No condition. -/
import Derived.Test.YtkadckhealbdaaaTy
import Derived.Test.YtkadckhealbdaaaS5Made
namespace Go.Proofs.Ytkadckhealbdaaa
open Go Go.RowKit Eng Mem
set_option linter.unusedVariables false
set_option maxRecDepth 100000
def V_impl_number (i0 : Int) (j1 : Int) (w : World) (K : Int → World → Prop) : Prop :=
  (QAll Try.prog (Builtin.min_ #[2, 2] 2 #[(.int .i64 i0), (.int .i64 j1)]) (.int .i64) fun (x7_1 : Int) => (QAll Try.prog (Builtin.max_ #[2, 2] 2 #[(.int .i64 i0), (.int .i64 j1)]) (.int .i64) fun (x10_2 : Int) => ((2 : Int) ≠ 0 ∧ K (IntKind.i64.wrap ((IntKind.i64.wrap (Int.tdiv (IntKind.i64.wrap (x10_2 * (IntKind.i64.wrap (x10_2 - (1 : Int))))) (2 : Int))) + x7_1)) w)))

theorem eq_impl_number (i0 : Int) (j1 : Int) (w : World) (K : Int → World → Prop) :
    W Try.prog ty (fun _ _ _ _ => False) (bodyOf Try.f115) (fnPost Try.prog Try.f115.results.toList (.one (.int .i64)) K) (frame0 [(.int .i64 i0), (.int .i64 j1)] 18) w = V_impl_number i0 j1 w K := by
  kernel_rfl

theorem body_impl_number : Try.f115.body = some (bodyOf Try.f115) := by kernel_rfl
theorem name_impl_number : (Try.f115.name == "runtime.NumGoroutine") = false := by kernel_rfl

theorem walk_impl_number (i0 : Int) (j1 : Int) {w : World} {K : Int → World → Prop} (h : V_impl_number i0 j1 w K) : Fc Try.prog 115 #[(.int .i64 i0), (.int .i64 j1)] w (.one (.int .i64)) K :=
  fn_ok follows (sound_none _) Try.func115 name_impl_number body_impl_number Try.ntmps115 [(.int .i64 i0), (.int .i64 j1)] (Eq.mpr (eq_impl_number i0 j1 w K) h)

-- uses S5Made
theorem c_impl_number {i j : Int} {w : World} {K : Int → World → Prop} (h0 : 0 ≤ i) (h1 : i ≤ 17) (k0 : 0 ≤ j) (k1 : j ≤ 17) (hK : K (num i j) w) : Fc Try.prog F_impl_number #[.int .i64 i, .int .i64 j] w (.one (.int .i64)) K := by
  refine walk_impl_number _ _ (mn (mx ⟨by decide, ?_⟩))
  by_cases h : i < j
  · rw [if_pos (show j > i from h), if_neg (by omega), wnum h0 h1 k0 k1]
    rwa [num_of h] at hK
  · rw [if_neg (show ¬ j > i from h)]
    unfold num at hK
    rw [if_neg h] at hK
    by_cases h' : j < i
    · rw [if_pos h', wnum k0 k1 h0 h1]; exact hK
    · have : i = j := by omega
      subst this
      rw [if_neg h', wnum k0 k1 h0 h1]; exact hK

end Go.Proofs.Ytkadckhealbdaaa
