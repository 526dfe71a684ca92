/- The reading of impl_PartOfColouring_1, and its contract. No condition. -/
import Derived.Test.YtdkodhonaoecnaaTy
import Derived.Test.YtdkodhonaoecnaaS7Chg
namespace Go.Proofs.Ytdkodhonaoecnaa
open Go Go.RowKit Eng Mem
set_option linter.unusedVariables false
set_option maxRecDepth 100000
def V_impl_PartOfColouring_1 (x0 : Value) (w : World) (K : Bool → World → Prop) : Prop :=
  (QAll Try.prog (Instr.fieldAt 28 x0 1) .any fun (x2_1 : Value) => (QSub Try.prog (Instr.loadAt 2 x2_1) w (.int .i64) fun (x3_2 : Int) => K (decide (x3_2 ≤ (3 : Int))) w))

theorem eq_impl_PartOfColouring_1 (x0 : Value) (w : World) (K : Bool → World → Prop) :
    W Try.prog ty (fun _ _ _ _ => False) (bodyOf Try.f93) (fnPost Try.prog Try.f93.results.toList (.one .bool) K) (frame0 [x0] 5) w = V_impl_PartOfColouring_1 x0 w K := by
  kernel_rfl

theorem body_impl_PartOfColouring_1 : Try.f93.body = some (bodyOf Try.f93) := by kernel_rfl
theorem name_impl_PartOfColouring_1 : (Try.f93.name == "runtime.NumGoroutine") = false := by kernel_rfl

theorem walk_impl_PartOfColouring_1 (x0 : Value) {w : World} {K : Bool → World → Prop} (h : V_impl_PartOfColouring_1 x0 w K) : Fc Try.prog 93 #[x0] w (.one .bool) K :=
  fn_ok follows (sound_none _) Try.func93 name_impl_PartOfColouring_1 body_impl_PartOfColouring_1 Try.ntmps93 [x0] (Eq.mpr (eq_impl_PartOfColouring_1 x0 w K) h)

-- uses S7Chg
theorem c_impl_PartOfColouring_1 {p : Value} {c : Col} {w : World} {K : Bool → World → Prop} (hx : ColAt w p c) (hK : K (decide (c.k ≤ 3)) w) : Fc Try.prog F_impl_PartOfColouring_1 #[p] w (.one .bool) K :=
  walk_impl_PartOfColouring_1 _ (col_k hx hK)

end Go.Proofs.Ytdkodhonaoecnaa
