/- The reading of impl_Colouring_edges, and its contract. No condition. -/
import Derived.Test.YtkadckhealbdaaaTy
import Derived.Test.YtkadckhealbdaaaS1Col
namespace Go.Proofs.Ytkadckhealbdaaa
open Go Go.RowKit Eng Mem
set_option linter.unusedVariables false
set_option maxRecDepth 100000
def V_impl_Colouring_edges (x0 : Value) (w : World) (K : Int → World → Prop) : Prop :=
  (∀ w_1, Drew w w_1 → (NilOk x0 ∧ (QAll Try.prog (Instr.fieldAt 25 x0 0) .any fun (x5_2 : Value) => (QSub Try.prog (Instr.loadAt 2 x5_2) w_1 (.int .i64) fun (x6_3 : Int) => (NilOk x0 ∧ (QAll Try.prog (Instr.fieldAt 25 x0 0) .any fun (x9_4 : Value) => (QSub Try.prog (Instr.loadAt 2 x9_4) w_1 (.int .i64) fun (x10_5 : Int) => ((2 : Int) ≠ 0 ∧ K (IntKind.i64.wrap (Int.tdiv (IntKind.i64.wrap (x6_3 * (IntKind.i64.wrap (x10_5 - (1 : Int))))) (2 : Int))) w_1))))))))

theorem eq_impl_Colouring_edges (x0 : Value) (w : World) (K : Int → World → Prop) :
    W Try.prog ty (fun _ _ _ _ => False) (bodyOf Try.f98) (fnPost Try.prog Try.f98.results.toList (.one (.int .i64)) K) (frame0 [x0] 14) w = V_impl_Colouring_edges x0 w K := by
  kernel_rfl

theorem body_impl_Colouring_edges : Try.f98.body = some (bodyOf Try.f98) := by kernel_rfl
theorem name_impl_Colouring_edges : (Try.f98.name == "runtime.NumGoroutine") = false := by kernel_rfl

theorem walk_impl_Colouring_edges (x0 : Value) {w : World} {K : Int → World → Prop} (h : V_impl_Colouring_edges x0 w K) : Fc Try.prog 98 #[x0] w (.one (.int .i64)) K :=
  fn_ok follows (sound_none _) Try.func98 name_impl_Colouring_edges body_impl_Colouring_edges Try.ntmps98 [x0] (Eq.mpr (eq_impl_Colouring_edges x0 w K) h)

-- uses S1Col
theorem c_impl_Colouring_edges {p : Value} {c : Col} {w : World} {K : Int → World → Prop} (h0 : 0 ≤ c.n) (h1 : c.n ≤ 17) (hx : ColAt w p c) (hK : ∀ w', Below w.heap.size w w' → K (edgesOf c.n) w') :
    Fc Try.prog F_impl_Colouring_edges #[p] w (.one (.int .i64)) K := by
  refine walk_impl_Colouring_edges p ?_
  intro w1 hd
  have hx1 := hx.keep (hd.below _)
  refine ⟨hx1.nonnil, col_n hx1 ⟨hx1.nonnil, col_n hx1 ⟨by decide, ?_⟩⟩⟩
  rw [wedges h0 h1]
  exact hK w1 (hd.below _)

end Go.Proofs.Ytkadckhealbdaaa
