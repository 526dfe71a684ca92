/- The reading of impl_distance, and its contract. No condition. -/
import Derived.Test.YtdkodhonaoecnaaTy
import Derived.Test.YtdkodhonaoecnaaS6Pair
namespace Go.Proofs.Ytdkodhonaoecnaa
open Go Go.RowKit Eng Mem
set_option linter.unusedVariables false
set_option maxRecDepth 100000
def V_impl_distance (n0 : Int) (i1 : Int) (j2 : Int) (w : World) (K : Int → World → Prop) : Prop :=
  (QAll Try.prog (Builtin.max_ #[2, 2] 2 #[(.int .i64 i1), (.int .i64 j2)]) (.int .i64) fun (x10_1 : Int) => (QAll Try.prog (Builtin.min_ #[2, 2] 2 #[(.int .i64 i1), (.int .i64 j2)]) (.int .i64) fun (x13_2 : Int) => (QAll Try.prog (Builtin.min_ #[2, 2] 2 #[(.int .i64 (IntKind.i64.wrap (x10_1 - x13_2))), (.int .i64 (IntKind.i64.wrap (n0 - (IntKind.i64.wrap (x10_1 - x13_2)))))]) (.int .i64) fun (x19_3 : Int) => K x19_3 w)))

theorem eq_impl_distance (n0 : Int) (i1 : Int) (j2 : Int) (w : World) (K : Int → World → Prop) :
    W Try.prog ty (fun _ _ _ _ => False) (bodyOf Try.f107) (fnPost Try.prog Try.f107.results.toList (.one (.int .i64)) K) (frame0 [(.int .i64 n0), (.int .i64 i1), (.int .i64 j2)] 20) w = V_impl_distance n0 i1 j2 w K := by
  kernel_rfl

theorem body_impl_distance : Try.f107.body = some (bodyOf Try.f107) := by kernel_rfl
theorem name_impl_distance : (Try.f107.name == "runtime.NumGoroutine") = false := by kernel_rfl

theorem walk_impl_distance (n0 : Int) (i1 : Int) (j2 : Int) {w : World} {K : Int → World → Prop} (h : V_impl_distance n0 i1 j2 w K) : Fc Try.prog 107 #[(.int .i64 n0), (.int .i64 i1), (.int .i64 j2)] w (.one (.int .i64)) K :=
  fn_ok follows (sound_none _) Try.func107 name_impl_distance body_impl_distance Try.ntmps107 [(.int .i64 n0), (.int .i64 i1), (.int .i64 j2)] (Eq.mpr (eq_impl_distance n0 i1 j2 w K) h)

-- uses S6Pair
theorem c_impl_distance {i j n : Int} {w : World} {K : Int → World → Prop} (h0 : 0 ≤ i) (h1 : i < j) (h2 : j < n) (h3 : n ≤ 17) (hK : K (dist n i j) w) : Fc Try.prog F_impl_distance #[.int .i64 n, .int .i64 i, .int .i64 j] w (.one (.int .i64)) K := by
  refine walk_impl_distance _ _ _ (mx (mn (mn ?_)))
  rw [if_pos (show j > i from h1), if_neg (show ¬ j < i by omega), wrap_small (n := j - i) (by omega) (by omega), wrap_small (by omega) (by omega)]
  unfold dist at hK
  by_cases h : j - i ≤ n - (j - i)
  · rw [if_pos h] at hK
    rwa [if_neg (by omega)]
  · rw [if_neg h] at hK
    rwa [if_pos (by omega)]

end Go.Proofs.Ytdkodhonaoecnaa
