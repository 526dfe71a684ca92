/- The reading of spec_l03Distance, and its contract. No condition. -/
import Derived.Test.YtdkodhonaoecnaaTy
import Derived.Test.YtdkodhonaoecnaaS6Pair
namespace Go.Proofs.Ytdkodhonaoecnaa
open Go Go.RowKit Eng Mem
set_option linter.unusedVariables false
set_option maxRecDepth 100000
def V_spec_l03Distance (i0 : Int) (j1 : Int) (n2 : Int) (w : World) (K : Int → World → Prop) : Prop :=
  (QAll Try.prog (Builtin.max_ #[2, 2] 2 #[(.int .i64 i0), (.int .i64 j1)]) (.int .i64) fun (x10_1 : Int) => (QAll Try.prog (Builtin.min_ #[2, 2] 2 #[(.int .i64 i0), (.int .i64 j1)]) (.int .i64) fun (x13_2 : Int) => (QAll Try.prog (Builtin.min_ #[2, 2] 2 #[(.int .i64 (IntKind.i64.wrap (x10_1 - x13_2))), (.int .i64 (IntKind.i64.wrap (n2 - (IntKind.i64.wrap (x10_1 - x13_2)))))]) (.int .i64) fun (x19_3 : Int) => K x19_3 w)))

theorem eq_spec_l03Distance (i0 : Int) (j1 : Int) (n2 : Int) (w : World) (K : Int → World → Prop) :
    W Try.prog ty (fun _ _ _ _ => False) (bodyOf Try.f102) (fnPost Try.prog Try.f102.results.toList (.one (.int .i64)) K) (frame0 [(.int .i64 i0), (.int .i64 j1), (.int .i64 n2)] 20) w = V_spec_l03Distance i0 j1 n2 w K := by
  kernel_rfl

theorem body_spec_l03Distance : Try.f102.body = some (bodyOf Try.f102) := by kernel_rfl
theorem name_spec_l03Distance : (Try.f102.name == "runtime.NumGoroutine") = false := by kernel_rfl

theorem walk_spec_l03Distance (i0 : Int) (j1 : Int) (n2 : Int) {w : World} {K : Int → World → Prop} (h : V_spec_l03Distance i0 j1 n2 w K) : Fc Try.prog 102 #[(.int .i64 i0), (.int .i64 j1), (.int .i64 n2)] w (.one (.int .i64)) K :=
  fn_ok follows (sound_none _) Try.func102 name_spec_l03Distance body_spec_l03Distance Try.ntmps102 [(.int .i64 i0), (.int .i64 j1), (.int .i64 n2)] (Eq.mpr (eq_spec_l03Distance i0 j1 n2 w K) h)

-- uses S6Pair
theorem c_spec_l03Distance {i j n : Int} {w : World} {K : Int → World → Prop} (h0 : 0 ≤ i) (h1 : i < j) (h2 : j < n) (h3 : n ≤ 17) (hK : K (dist n i j) w) : Fc Try.prog F_spec_l03Distance #[.int .i64 i, .int .i64 j, .int .i64 n] w (.one (.int .i64)) K := by
  refine walk_spec_l03Distance _ _ _ (mx (mn (mn ?_)))
  rw [if_pos (show j > i from h1), if_neg (show ¬ j < i by omega), wrap_small (n := j - i) (by omega) (by omega), wrap_small (by omega) (by omega)]
  unfold dist at hK
  by_cases h : j - i ≤ n - (j - i)
  · rw [if_pos h] at hK
    rwa [if_neg (by omega)]
  · rw [if_neg h] at hK
    rwa [if_pos (by omega)]

end Go.Proofs.Ytdkodhonaoecnaa
