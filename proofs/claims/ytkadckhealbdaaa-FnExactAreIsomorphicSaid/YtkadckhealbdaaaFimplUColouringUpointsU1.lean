/- The reading of impl_Colouring_points_1, and its contract. No condition. -/
import Derived.Test.YtkadckhealbdaaaTy
namespace Go.Proofs.Ytkadckhealbdaaa
open Go Go.RowKit Eng Mem
set_option linter.unusedVariables false
set_option maxRecDepth 100000
def V_impl_Colouring_points_1 (x0 : Int) (w : World) (K : Bool → World → Prop) : Prop :=
  K true w

theorem eq_impl_Colouring_points_1 (x0 : Int) (w : World) (K : Bool → World → Prop) :
    W Try.prog ty (fun _ _ _ _ => False) (bodyOf Try.f136) (fnPost Try.prog Try.f136.results.toList (.one .bool) K) (frame0 [(.int .i64 x0)] 3) w = V_impl_Colouring_points_1 x0 w K := by
  kernel_rfl

theorem body_impl_Colouring_points_1 : Try.f136.body = some (bodyOf Try.f136) := by kernel_rfl
theorem name_impl_Colouring_points_1 : (Try.f136.name == "runtime.NumGoroutine") = false := by kernel_rfl

theorem walk_impl_Colouring_points_1 (x0 : Int) {w : World} {K : Bool → World → Prop} (h : V_impl_Colouring_points_1 x0 w K) : Fc Try.prog 136 #[(.int .i64 x0)] w (.one .bool) K :=
  fn_ok follows (sound_none _) Try.func136 name_impl_Colouring_points_1 body_impl_Colouring_points_1 Try.ntmps136 [(.int .i64 x0)] (Eq.mpr (eq_impl_Colouring_points_1 x0 w K) h)

theorem c_impl_Colouring_points_1 {i : Int} {w : World} {K : Bool → World → Prop} (hK : K true w) : Fc Try.prog F_impl_Colouring_points_1 #[.int .i64 i] w (.one .bool) K := walk_impl_Colouring_points_1 _ hK

end Go.Proofs.Ytkadckhealbdaaa
