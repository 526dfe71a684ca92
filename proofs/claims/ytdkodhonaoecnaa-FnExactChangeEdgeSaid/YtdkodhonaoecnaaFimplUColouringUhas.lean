/- The reading of impl_Colouring_has, and its contract. No condition. -/
import Derived.Test.YtdkodhonaoecnaaTy
import Derived.Test.YtdkodhonaoecnaaS1Col
import Derived.Test.YtdkodhonaoecnaaFimplUin
namespace Go.Proofs.Ytdkodhonaoecnaa
open Go Go.RowKit Eng Mem
set_option linter.unusedVariables false
set_option maxRecDepth 100000
def V_impl_Colouring_has (x0 : Value) (i1 : Int) (w : World) (K : Bool → World → Prop) : Prop :=
  (NilOk x0 ∧ (QAll Try.prog (Instr.fieldAt 28 x0 0) .any fun (x8_1 : Value) => (QSub Try.prog (Instr.loadAt 2 x8_1) w (.int .i64) fun (x9_2 : Int) => (Fc Try.prog 48 #[(.int .i64 i1), (.int .i64 (0 : Int)), (.int .i64 (IntKind.i64.wrap (x9_2 - (1 : Int))))] w (.one .bool) fun (x11_4 : Bool) w_3 => K x11_4 w_3))))

theorem eq_impl_Colouring_has (x0 : Value) (i1 : Int) (w : World) (K : Bool → World → Prop) :
    W Try.prog ty (fun _ _ _ _ => False) (bodyOf Try.f112) (fnPost Try.prog Try.f112.results.toList (.one .bool) K) (frame0 [x0, (.int .i64 i1)] 12) w = V_impl_Colouring_has x0 i1 w K := by
  kernel_rfl

theorem body_impl_Colouring_has : Try.f112.body = some (bodyOf Try.f112) := by kernel_rfl
theorem name_impl_Colouring_has : (Try.f112.name == "runtime.NumGoroutine") = false := by kernel_rfl

theorem walk_impl_Colouring_has (x0 : Value) (i1 : Int) {w : World} {K : Bool → World → Prop} (h : V_impl_Colouring_has x0 i1 w K) : Fc Try.prog 112 #[x0, (.int .i64 i1)] w (.one .bool) K :=
  fn_ok follows (sound_none _) Try.func112 name_impl_Colouring_has body_impl_Colouring_has Try.ntmps112 [x0, (.int .i64 i1)] (Eq.mpr (eq_impl_Colouring_has x0 i1 w K) h)

-- uses S1Col
theorem c_impl_Colouring_has {p : Value} {c : Col} {i : Int} {w : World} {K : Bool → World → Prop} (hx : ColAt w p c) (h0 : 0 ≤ c.n) (h1 : c.n ≤ 17) (hK : K (decide (0 ≤ i ∧ i ≤ c.n - 1)) w) :
    Fc Try.prog F_impl_Colouring_has #[p, .int .i64 i] w (.one .bool) K := by
  refine walk_impl_Colouring_has _ _ ⟨hx.nonnil, col_n hx ?_⟩
  rw [wrap_small (by omega) (by omega)]
  exact c_impl_in _ _ _ hK

end Go.Proofs.Ytdkodhonaoecnaa
