/- The reading of impl_Colouring_hasColour, and its contract. No condition. -/
import Derived.Test.YtkadckhealbdaaaTy
import Derived.Test.YtkadckhealbdaaaS1Col
import Derived.Test.YtkadckhealbdaaaFimplUin
namespace Go.Proofs.Ytkadckhealbdaaa
open Go Go.RowKit Eng Mem
set_option linter.unusedVariables false
set_option maxRecDepth 100000
def V_impl_Colouring_hasColour (x0 : Value) (c1 : Int) (w : World) (K : Bool → World → Prop) : Prop :=
  (NilOk x0 ∧ (QAll Try.prog (Instr.fieldAt 25 x0 1) .any fun (x8_1 : Value) => (QSub Try.prog (Instr.loadAt 2 x8_1) w (.int .i64) fun (x9_2 : Int) => (Fc Try.prog 54 #[(.int .i64 c1), (.int .i64 (0 : Int)), (.int .i64 (IntKind.i64.wrap (x9_2 - (1 : Int))))] w (.one .bool) fun (x11_4 : Bool) w_3 => K x11_4 w_3))))

theorem eq_impl_Colouring_hasColour (x0 : Value) (c1 : Int) (w : World) (K : Bool → World → Prop) :
    W Try.prog ty (fun _ _ _ _ => False) (bodyOf Try.f48) (fnPost Try.prog Try.f48.results.toList (.one .bool) K) (frame0 [x0, (.int .i64 c1)] 12) w = V_impl_Colouring_hasColour x0 c1 w K := by
  kernel_rfl

theorem body_impl_Colouring_hasColour : Try.f48.body = some (bodyOf Try.f48) := by kernel_rfl
theorem name_impl_Colouring_hasColour : (Try.f48.name == "runtime.NumGoroutine") = false := by kernel_rfl

theorem walk_impl_Colouring_hasColour (x0 : Value) (c1 : Int) {w : World} {K : Bool → World → Prop} (h : V_impl_Colouring_hasColour x0 c1 w K) : Fc Try.prog 48 #[x0, (.int .i64 c1)] w (.one .bool) K :=
  fn_ok follows (sound_none _) Try.func48 name_impl_Colouring_hasColour body_impl_Colouring_hasColour Try.ntmps48 [x0, (.int .i64 c1)] (Eq.mpr (eq_impl_Colouring_hasColour x0 c1 w K) h)

-- uses S1Col
theorem c_impl_Colouring_hasColour {p : Value} {c : Col} {x : Int} {w : World} {K : Bool → World → Prop} (hx : ColAt w p c) (h0 : 0 ≤ c.k) (h1 : c.k ≤ 4) (hK : K (decide (0 ≤ x ∧ x ≤ c.k - 1)) w) :
    Fc Try.prog F_impl_Colouring_hasColour #[p, .int .i64 x] w (.one .bool) K := by
  refine walk_impl_Colouring_hasColour _ _ ⟨hx.nonnil, col_k hx ?_⟩
  rw [wrap_small (by omega) (by omega)]
  exact c_impl_in _ _ _ hK

end Go.Proofs.Ytkadckhealbdaaa
