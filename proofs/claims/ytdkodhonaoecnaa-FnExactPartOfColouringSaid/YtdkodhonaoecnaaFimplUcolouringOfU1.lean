/- The reading of impl_colouringOf_1, and its contract. No condition. -/
import Derived.Test.YtdkodhonaoecnaaTy
import Derived.Test.YtdkodhonaoecnaaS6Pair
namespace Go.Proofs.Ytdkodhonaoecnaa
open Go Go.RowKit Eng Mem
set_option linter.unusedVariables false
set_option maxRecDepth 100000
def V_impl_colouringOf_1 (i0 : Int) (j1 : Int) (x2 : Value) (w : World) (K : Int → World → Prop) : Prop :=
  (QSub Try.prog (Instr.loadAt 25 x2) w .any fun (x6_1 : Value) => (QAll Try.prog (Instr.indexAt 25 x6_1 (.int .i64 (IntKind.i64.wrap ((IntKind.i64.wrap (j1 - i0)) - (1 : Int))))) .any fun (x11_2 : Value) => (QSub Try.prog (Instr.loadAt 2 x11_2) w (.int .i64) fun (x12_3 : Int) => K x12_3 w)))

theorem eq_impl_colouringOf_1 (i0 : Int) (j1 : Int) (x2 : Value) (w : World) (K : Int → World → Prop) :
    W Try.prog ty (fun _ _ _ _ => False) (bodyOf Try.f122) (fnPost Try.prog Try.f122.results.toList (.one (.int .i64)) K) (frame0 [(.int .i64 i0), (.int .i64 j1), x2] 13) w = V_impl_colouringOf_1 i0 j1 x2 w K := by
  kernel_rfl

theorem body_impl_colouringOf_1 : Try.f122.body = some (bodyOf Try.f122) := by kernel_rfl
theorem name_impl_colouringOf_1 : (Try.f122.name == "runtime.NumGoroutine") = false := by kernel_rfl

theorem walk_impl_colouringOf_1 (i0 : Int) (j1 : Int) (x2 : Value) {w : World} {K : Int → World → Prop} (h : V_impl_colouringOf_1 i0 j1 x2 w K) : Fc Try.prog 122 #[(.int .i64 i0), (.int .i64 j1), x2] w (.one (.int .i64)) K :=
  fn_ok follows (sound_none _) Try.func122 name_impl_colouringOf_1 body_impl_colouringOf_1 Try.ntmps122 [(.int .i64 i0), (.int .i64 j1), x2] (Eq.mpr (eq_impl_colouringOf_1 i0 j1 x2 w K) h)

-- uses S6Pair
theorem c_impl_colouringOf_1 {p v : Value} {l : List Int} {i j : Int} {w : World} {K : Int → World → Prop} (hp : Cell w p v) (h : SlI w v l) (h0 : 0 ≤ i) (h1 : i < j) (h2 : j ≤ l.length) (h3 : l.length ≤ 40)
    (hK : K (l.getD (j - i - 1).toNat 0) w) : Fc Try.prog F_impl_colouringOf_1 #[.int .i64 i, .int .i64 j, p] w (.one (.int .i64)) K := by
  refine walk_impl_colouringOf_1 _ _ _ (ld (k := .any) y1SI hp ?_)
  rw [wrap_small (n := j - i) (by omega) (by omega), wrap_small (by omega) (by omega)]
  exact atI h (by omega) (by omega) hK

end Go.Proofs.Ytdkodhonaoecnaa
