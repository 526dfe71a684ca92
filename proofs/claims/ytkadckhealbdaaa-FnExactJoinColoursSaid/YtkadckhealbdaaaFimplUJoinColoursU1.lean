/- The reading of impl_JoinColours_1, and its contract. No condition. -/
import Derived.Test.YtkadckhealbdaaaTy
import Derived.Test.YtkadckhealbdaaaS8Rec
import Derived.Test.YtkadckhealbdaaaFimplUColouringUhasColour
namespace Go.Proofs.Ytkadckhealbdaaa
open Go Go.RowKit Eng Mem
set_option linter.unusedVariables false
set_option maxRecDepth 100000
def V_impl_JoinColours_1 (x0 : Value) (x1 : Value) (x2 : Value) (w : World) (K : Bool → World → Prop) : Prop :=
  (QSub Try.prog (Instr.loadAt 2 x1) w (.int .i64) fun (x4_1 : Int) => (Fc Try.prog 48 #[x0, (.int .i64 x4_1)] w (.one .bool) fun (x5_3 : Bool) w_2 => ((x5_3 = true → (QSub Try.prog (Instr.loadAt 2 x2) w_2 (.int .i64) fun (x7_4 : Int) => (Fc Try.prog 48 #[x0, (.int .i64 x7_4)] w_2 (.one .bool) fun (x8_6 : Bool) w_5 => ((x8_6 = true → (QSub Try.prog (Instr.loadAt 2 x1) w_5 (.int .i64) fun (x11_7 : Int) => (QSub Try.prog (Instr.loadAt 2 x2) w_5 (.int .i64) fun (x12_8 : Int) => K (decide (x11_7 < x12_8)) w_5))) ∧ (x8_6 = false → K false w_5))))) ∧ (x5_3 = false → K false w_2))))

theorem eq_impl_JoinColours_1 (x0 : Value) (x1 : Value) (x2 : Value) (w : World) (K : Bool → World → Prop) :
    W Try.prog ty (fun _ _ _ _ => False) (bodyOf Try.f47) (fnPost Try.prog Try.f47.results.toList (.one .bool) K) (frame0 [x0, x1, x2] 15) w = V_impl_JoinColours_1 x0 x1 x2 w K := by
  kernel_rfl

theorem body_impl_JoinColours_1 : Try.f47.body = some (bodyOf Try.f47) := by kernel_rfl
theorem name_impl_JoinColours_1 : (Try.f47.name == "runtime.NumGoroutine") = false := by kernel_rfl

theorem walk_impl_JoinColours_1 (x0 : Value) (x1 : Value) (x2 : Value) {w : World} {K : Bool → World → Prop} (h : V_impl_JoinColours_1 x0 x1 x2 w K) : Fc Try.prog 47 #[x0, x1, x2] w (.one .bool) K :=
  fn_ok follows (sound_none _) Try.func47 name_impl_JoinColours_1 body_impl_JoinColours_1 Try.ntmps47 [x0, x1, x2] (Eq.mpr (eq_impl_JoinColours_1 x0 x1 x2 w K) h)

-- uses S8Rec
theorem c_impl_JoinColours_1 {x p q : Value} {y : Col} {c d : Int} {w : World} {K : Bool → World → Prop} (hx : ColAt w x y) (hp : Cell w p (.int .i64 c)) (hq : Cell w q (.int .i64 d)) (h0 : 0 ≤ y.k) (h1 : y.k ≤ 4) (hK : K (decide (JoinIs y c d)) w) : Fc Try.prog F_impl_JoinColours_1 #[x, p, q] w (.one .bool) K := by
  refine walk_impl_JoinColours_1 _ _ _ (ld (k := .int .i64) yI hp (c_impl_Colouring_hasColour hx h0 h1 ⟨fun a => ld (k := .int .i64) yI hq (c_impl_Colouring_hasColour hx h0 h1 ⟨fun b => ld (k := .int .i64) yI hp (ld (k := .int .i64) yI hq ?_), fun b => ?_⟩), fun a => ?_⟩))
  · rwa [show decide (JoinIs y c d) = decide (c < d) from by rw [decide_eq_decide]; exact ⟨fun h => h.2.2, fun h => ⟨dec_t a, dec_t b, h⟩⟩] at hK
  · rwa [decide_eq_false (fun h : JoinIs y c d => dec_f b h.2.1)] at hK
  · rwa [decide_eq_false (fun h : JoinIs y c d => dec_f a h.1)] at hK

end Go.Proofs.Ytkadckhealbdaaa
