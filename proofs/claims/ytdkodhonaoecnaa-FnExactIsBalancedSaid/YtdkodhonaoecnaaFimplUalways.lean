/- The reading of impl_always, and its contract. No condition. -/
import Derived.Test.YtdkodhonaoecnaaTy
namespace Go.Proofs.Ytdkodhonaoecnaa
open Go Go.RowKit Eng Mem
set_option linter.unusedVariables false
set_option maxRecDepth 100000
def V_impl_always  (w : World) (K : Bool → World → Prop) : Prop :=
  K true w

theorem eq_impl_always  (w : World) (K : Bool → World → Prop) :
    W Try.prog ty (fun _ _ _ _ => False) (bodyOf Try.f84) (fnPost Try.prog Try.f84.results.toList (.one .bool) K) (frame0 [] 1) w = V_impl_always  w K := by
  kernel_rfl

theorem body_impl_always : Try.f84.body = some (bodyOf Try.f84) := by kernel_rfl
theorem name_impl_always : (Try.f84.name == "runtime.NumGoroutine") = false := by kernel_rfl

theorem walk_impl_always  {w : World} {K : Bool → World → Prop} (h : V_impl_always  w K) : Fc Try.prog 84 #[] w (.one .bool) K :=
  fn_ok follows (sound_none _) Try.func84 name_impl_always body_impl_always Try.ntmps84 [] (Eq.mpr (eq_impl_always  w K) h)

theorem c_impl_always {w : World} {K : Bool → World → Prop} (hK : K true w) : Fc Try.prog F_impl_always #[] w (.one .bool) K := walk_impl_always hK

end Go.Proofs.Ytdkodhonaoecnaa
