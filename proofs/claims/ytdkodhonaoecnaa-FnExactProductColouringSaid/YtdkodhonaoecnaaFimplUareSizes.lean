/- The reading of impl_areSizes, and its contract. No condition. -/
import Derived.Test.YtdkodhonaoecnaaTy
import Derived.Test.YtdkodhonaoecnaaS3Part
import Derived.Test.YtdkodhonaoecnaaFimplUin
namespace Go.Proofs.Ytdkodhonaoecnaa
open Go Go.RowKit Eng Mem
set_option linter.unusedVariables false
set_option maxRecDepth 100000
def V_impl_areSizes (n0 : Int) (k1 : Int) (w : World) (K : Bool → World → Prop) : Prop :=
  (Fc Try.prog 48 #[(.int .i64 n0), (.int .i64 (1 : Int)), (.int .i64 (17 : Int))] w (.one .bool) fun (x6_2 : Bool) w_1 => ((x6_2 = true → (Fc Try.prog 48 #[(.int .i64 k1), (.int .i64 (1 : Int)), (.int .i64 (4 : Int))] w_1 (.one .bool) fun (x9_4 : Bool) w_3 => K x9_4 w_3)) ∧ (x6_2 = false → K false w_1)))

theorem eq_impl_areSizes (n0 : Int) (k1 : Int) (w : World) (K : Bool → World → Prop) :
    W Try.prog ty (fun _ _ _ _ => False) (bodyOf Try.f54) (fnPost Try.prog Try.f54.results.toList (.one .bool) K) (frame0 [(.int .i64 n0), (.int .i64 k1)] 11) w = V_impl_areSizes n0 k1 w K := by
  kernel_rfl

theorem body_impl_areSizes : Try.f54.body = some (bodyOf Try.f54) := by kernel_rfl
theorem name_impl_areSizes : (Try.f54.name == "runtime.NumGoroutine") = false := by kernel_rfl

theorem walk_impl_areSizes (n0 : Int) (k1 : Int) {w : World} {K : Bool → World → Prop} (h : V_impl_areSizes n0 k1 w K) : Fc Try.prog 54 #[(.int .i64 n0), (.int .i64 k1)] w (.one .bool) K :=
  fn_ok follows (sound_none _) Try.func54 name_impl_areSizes body_impl_areSizes Try.ntmps54 [(.int .i64 n0), (.int .i64 k1)] (Eq.mpr (eq_impl_areSizes n0 k1 w K) h)

-- uses S3Part
theorem c_impl_areSizes (n k : Int) {w : World} {K : Bool → World → Prop} (hK : K (decide (Sizes n k)) w) : Fc Try.prog F_impl_areSizes #[.int .i64 n, .int .i64 k] w (.one .bool) K := by
  refine walk_impl_areSizes _ _ (c_impl_in _ _ _ ⟨fun h => c_impl_in _ _ _ ?_, fun h => ?_⟩)
  · have h := dec_t h
    have : decide (Sizes n k) = decide (1 ≤ k ∧ k ≤ 4) := by simp [Sizes, h.1, h.2]
    rwa [this] at hK
  · have h := dec_f h
    rwa [decide_eq_false (fun hh => h ⟨hh.1, hh.2.1⟩)] at hK

end Go.Proofs.Ytdkodhonaoecnaa
