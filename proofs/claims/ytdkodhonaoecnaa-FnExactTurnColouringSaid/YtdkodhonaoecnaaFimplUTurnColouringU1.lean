/- The reading of impl_TurnColouring_1, and its contract. No condition. -/
import Derived.Test.YtdkodhonaoecnaaTy
import Derived.Test.YtdkodhonaoecnaaS8Ren
import Derived.Test.YtdkodhonaoecnaaFimplUisTurn
namespace Go.Proofs.Ytdkodhonaoecnaa
open Go Go.RowKit Eng Mem
set_option linter.unusedVariables false
set_option maxRecDepth 100000
def V_impl_TurnColouring_1 (x0 : Value) (x1 : Value) (w : World) (K : Bool → World → Prop) : Prop :=
  (QAll Try.prog (Instr.fieldAt 28 x0 0) .any fun (x3_1 : Value) => (QSub Try.prog (Instr.loadAt 2 x3_1) w (.int .i64) fun (x4_2 : Int) => (QSub Try.prog (Instr.loadAt 2 x1) w (.int .i64) fun (x5_3 : Int) => (Fc Try.prog 90 #[(.int .i64 x4_2), (.int .i64 x5_3)] w (.one .bool) fun (x6_5 : Bool) w_4 => K x6_5 w_4))))

theorem eq_impl_TurnColouring_1 (x0 : Value) (x1 : Value) (w : World) (K : Bool → World → Prop) :
    W Try.prog ty (fun _ _ _ _ => False) (bodyOf Try.f89) (fnPost Try.prog Try.f89.results.toList (.one .bool) K) (frame0 [x0, x1] 7) w = V_impl_TurnColouring_1 x0 x1 w K := by
  kernel_rfl

theorem body_impl_TurnColouring_1 : Try.f89.body = some (bodyOf Try.f89) := by kernel_rfl
theorem name_impl_TurnColouring_1 : (Try.f89.name == "runtime.NumGoroutine") = false := by kernel_rfl

theorem walk_impl_TurnColouring_1 (x0 : Value) (x1 : Value) {w : World} {K : Bool → World → Prop} (h : V_impl_TurnColouring_1 x0 x1 w K) : Fc Try.prog 89 #[x0, x1] w (.one .bool) K :=
  fn_ok follows (sound_none _) Try.func89 name_impl_TurnColouring_1 body_impl_TurnColouring_1 Try.ntmps89 [x0, x1] (Eq.mpr (eq_impl_TurnColouring_1 x0 x1 w K) h)

-- uses S8Ren
theorem c_impl_TurnColouring_1 {p q : Value} {c : Col} {t : Int} {w : World} {K : Bool → World → Prop} (hx : ColAt w p c) (hq : Cell w q (.int .i64 t)) (n0 : 1 ≤ c.n) (n1 : c.n ≤ 17) (hK : ∀ w', Below w.heap.size w w' → K (decide (TurnIs c.n t)) w') :
    Fc Try.prog F_impl_TurnColouring_1 #[p, q] w (.one .bool) K :=
  walk_impl_TurnColouring_1 _ _ (col_n hx (ld (k := .int .i64) yI hq (c_impl_isTurn n0 n1 hK)))

end Go.Proofs.Ytdkodhonaoecnaa
