/- The reading of impl_sizeS, and its contract. No condition. -/
import Derived.Test.YtdkodhonaoecnaaTy
import Derived.Test.YtdkodhonaoecnaaS2Sl
namespace Go.Proofs.Ytdkodhonaoecnaa
open Go Go.RowKit Eng Mem
set_option linter.unusedVariables false
set_option maxRecDepth 100000
def V_impl_sizeS (list0 : Value) (w : World) (K : Int → World → Prop) : Prop :=
  (QAll Try.prog (Builtin.len_ #[25] 3 #[list0]) (.int .i64) fun (x4_1 : Int) => K x4_1 w)

theorem eq_impl_sizeS (list0 : Value) (w : World) (K : Int → World → Prop) :
    W Try.prog ty (fun _ _ _ _ => False) (bodyOf Try.f63) (fnPost Try.prog Try.f63.results.toList (.one (.int .i64)) K) (frame0 [list0] 5) w = V_impl_sizeS list0 w K := by
  kernel_rfl

theorem body_impl_sizeS : Try.f63.body = some (bodyOf Try.f63) := by kernel_rfl
theorem name_impl_sizeS : (Try.f63.name == "runtime.NumGoroutine") = false := by kernel_rfl

theorem walk_impl_sizeS (list0 : Value) {w : World} {K : Int → World → Prop} (h : V_impl_sizeS list0 w K) : Fc Try.prog 63 #[list0] w (.one (.int .i64)) K :=
  fn_ok follows (sound_none _) Try.func63 name_impl_sizeS body_impl_sizeS Try.ntmps63 [list0] (Eq.mpr (eq_impl_sizeS list0 w K) h)

-- uses S2Sl
theorem c_impl_sizeS {a : Value} {l : List Int} {w : World} {K : Int → World → Prop} (h : SlI w a l) (hK : K (l.length : Int) w) : Fc Try.prog F_impl_sizeS #[a] w (.one (.int .i64)) K :=
  walk_impl_sizeS _ (lenI h hK)

end Go.Proofs.Ytdkodhonaoecnaa
