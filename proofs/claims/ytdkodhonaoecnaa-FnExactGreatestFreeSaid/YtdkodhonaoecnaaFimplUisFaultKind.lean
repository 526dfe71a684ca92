/- The reading of impl_isFaultKind, and its contract. No condition. -/
import Derived.Test.YtdkodhonaoecnaaTy
import Derived.Test.YtdkodhonaoecnaaFimplUin
namespace Go.Proofs.Ytdkodhonaoecnaa
open Go Go.RowKit Eng Mem
set_option linter.unusedVariables false
set_option maxRecDepth 100000
def V_impl_isFaultKind (kind0 : Int) (w : World) (K : Bool → World → Prop) : Prop :=
  (Fc Try.prog 48 #[(.int .i64 kind0), (.int .i64 (0 : Int)), (.int .i64 (2 : Int))] w (.one .bool) fun (x4_2 : Bool) w_1 => K x4_2 w_1)

theorem eq_impl_isFaultKind (kind0 : Int) (w : World) (K : Bool → World → Prop) :
    W Try.prog ty (fun _ _ _ _ => False) (bodyOf Try.f60) (fnPost Try.prog Try.f60.results.toList (.one .bool) K) (frame0 [(.int .i64 kind0)] 5) w = V_impl_isFaultKind kind0 w K := by
  kernel_rfl

theorem body_impl_isFaultKind : Try.f60.body = some (bodyOf Try.f60) := by kernel_rfl
theorem name_impl_isFaultKind : (Try.f60.name == "runtime.NumGoroutine") = false := by kernel_rfl

theorem walk_impl_isFaultKind (kind0 : Int) {w : World} {K : Bool → World → Prop} (h : V_impl_isFaultKind kind0 w K) : Fc Try.prog 60 #[(.int .i64 kind0)] w (.one .bool) K :=
  fn_ok follows (sound_none _) Try.func60 name_impl_isFaultKind body_impl_isFaultKind Try.ntmps60 [(.int .i64 kind0)] (Eq.mpr (eq_impl_isFaultKind kind0 w K) h)

theorem c_impl_isFaultKind (kind : Int) {w : World} {K : Bool → World → Prop} (hK : K (decide (0 ≤ kind ∧ kind ≤ 2)) w) : Fc Try.prog F_impl_isFaultKind #[.int .i64 kind] w (.one .bool) K :=
  walk_impl_isFaultKind _ (c_impl_in _ _ _ hK)

end Go.Proofs.Ytdkodhonaoecnaa
