/- The reading of impl_sizeSS, and its contract. No condition. -/
import Derived.Test.YtdkodhonaoecnaaTy
import Derived.Test.YtdkodhonaoecnaaS8SS
namespace Go.Proofs.Ytdkodhonaoecnaa
open Go Go.RowKit Eng Mem
set_option linter.unusedVariables false
set_option maxRecDepth 100000
def V_impl_sizeSS (list0 : Value) (w : World) (K : Int → World → Prop) : Prop :=
  (QAll Try.prog (Builtin.len_ #[55] 3 #[list0]) (.int .i64) fun (x4_1 : Int) => K x4_1 w)

theorem eq_impl_sizeSS (list0 : Value) (w : World) (K : Int → World → Prop) :
    W Try.prog ty (fun _ _ _ _ => False) (bodyOf Try.f51) (fnPost Try.prog Try.f51.results.toList (.one (.int .i64)) K) (frame0 [list0] 5) w = V_impl_sizeSS list0 w K := by
  kernel_rfl

theorem body_impl_sizeSS : Try.f51.body = some (bodyOf Try.f51) := by kernel_rfl
theorem name_impl_sizeSS : (Try.f51.name == "runtime.NumGoroutine") = false := by kernel_rfl

theorem walk_impl_sizeSS (list0 : Value) {w : World} {K : Int → World → Prop} (h : V_impl_sizeSS list0 w K) : Fc Try.prog 51 #[list0] w (.one (.int .i64)) K :=
  fn_ok follows (sound_none _) Try.func51 name_impl_sizeSS body_impl_sizeSS Try.ntmps51 [list0] (Eq.mpr (eq_impl_sizeSS list0 w K) h)

-- uses S8SS
theorem c_impl_sizeSS {B b : Nat} {a : Value} {ls : List (List Int)} {w : World} {K : Int → World → Prop} (h : MySS B b w a ls) (hK : K (ls.length : Int) w) : Fc Try.prog F_impl_sizeSS #[a] w (.one (.int .i64)) K :=
  walk_impl_sizeSS _ (h.len_eq hK)

end Go.Proofs.Ytdkodhonaoecnaa
