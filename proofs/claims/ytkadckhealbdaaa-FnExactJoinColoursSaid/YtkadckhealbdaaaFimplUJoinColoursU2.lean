/- The reading of impl_JoinColours_2, and its contract. No condition. -/
import Derived.Test.YtkadckhealbdaaaTy
import Derived.Test.YtkadckhealbdaaaS8Rec
namespace Go.Proofs.Ytkadckhealbdaaa
open Go Go.RowKit Eng Mem
set_option linter.unusedVariables false
set_option maxRecDepth 100000
def V_impl_JoinColours_2 (e0 : Int) (x1 : Value) (x2 : Value) (w : World) (K : Int → World → Prop) : Prop :=
  (QSub Try.prog (Instr.loadAt 2 x1) w (.int .i64) fun (x7_1 : Int) => (((e0 == x7_1) = true → (QSub Try.prog (Instr.loadAt 2 x2) w (.int .i64) fun (x9_2 : Int) => K x9_2 w)) ∧ ((e0 == x7_1) = false → (QSub Try.prog (Instr.loadAt 2 x1) w (.int .i64) fun (x12_3 : Int) => (((decide (e0 > x12_3)) = true → K (IntKind.i64.wrap (e0 - (1 : Int))) w) ∧ ((decide (e0 > x12_3)) = false → K e0 w))))))

theorem eq_impl_JoinColours_2 (e0 : Int) (x1 : Value) (x2 : Value) (w : World) (K : Int → World → Prop) :
    W Try.prog ty (fun _ _ _ _ => False) (bodyOf Try.f50) (fnPost Try.prog Try.f50.results.toList (.one (.int .i64)) K) (frame0 [(.int .i64 e0), x1, x2] 17) w = V_impl_JoinColours_2 e0 x1 x2 w K := by
  kernel_rfl

theorem body_impl_JoinColours_2 : Try.f50.body = some (bodyOf Try.f50) := by kernel_rfl
theorem name_impl_JoinColours_2 : (Try.f50.name == "runtime.NumGoroutine") = false := by kernel_rfl

theorem walk_impl_JoinColours_2 (e0 : Int) (x1 : Value) (x2 : Value) {w : World} {K : Int → World → Prop} (h : V_impl_JoinColours_2 e0 x1 x2 w K) : Fc Try.prog 50 #[(.int .i64 e0), x1, x2] w (.one (.int .i64)) K :=
  fn_ok follows (sound_none _) Try.func50 name_impl_JoinColours_2 body_impl_JoinColours_2 Try.ntmps50 [(.int .i64 e0), x1, x2] (Eq.mpr (eq_impl_JoinColours_2 e0 x1 x2 w K) h)

-- uses S8Rec
theorem c_impl_JoinColours_2 {p q : Value} {c d e : Int} {w : World} {K : Int → World → Prop} (hp : Cell w p (.int .i64 d)) (hq : Cell w q (.int .i64 c)) (he : 0 ≤ e ∧ e < 256) (hd : 0 ≤ d) (hK : K (joinG c d e) w) : Fc Try.prog F_impl_JoinColours_2 #[.int .i64 e, p, q] w (.one (.int .i64)) K := by
  unfold joinG at hK
  refine walk_impl_JoinColours_2 _ _ _ (ld (k := .int .i64) yI hp ⟨fun h => ?_, fun h => ld (k := .int .i64) yI hp ⟨fun h2 => ?_, fun h2 => ?_⟩⟩)
  · rw [if_pos (eq_t h)] at hK
    exact ld (k := .int .i64) yI hq hK
  · rw [if_neg (eq_f h), if_pos (dec_t h2)] at hK
    rwa [wrap_small (by omega) (by omega)]
  · rwa [if_neg (eq_f h), if_neg (dec_f h2)] at hK

end Go.Proofs.Ytkadckhealbdaaa
