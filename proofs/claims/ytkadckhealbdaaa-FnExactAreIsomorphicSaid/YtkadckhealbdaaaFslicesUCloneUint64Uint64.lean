/- The reading of slices_Clone_int64_int64, and its contract. No condition. -/
import Derived.Test.YtkadckhealbdaaaTy
import Derived.Test.YtkadckhealbdaaaS2Sl
namespace Go.Proofs.Ytkadckhealbdaaa
open Go Go.RowKit Eng Mem
set_option linter.unusedVariables false
set_option maxRecDepth 100000
def V_slices_Clone_int64_int64 (s0 : Value) (w : World) (K : Value → World → Prop) : Prop :=
  (QAll Try.prog (do eqGuard .eql 31 (.tmp 3) (.const (.slice none 0 0)) s0 (.slice none 0 0); binOp .eql 31 s0 (.slice none 0 0)) .bool fun (x4_1 : Bool) => ((x4_1 = true → K ((.slice none 0 0) : Value) w) ∧ (x4_1 = false → (Pr Try.prog (Instr.buildSlice 31 0 #[]) w (.one .any) fun (x5_3 : Value) w_2 => (Pr Try.prog (Builtin.append_ #[31, 31] 31 #[x5_3, s0]) w_2 (.one .any) fun (x7_5 : Value) w_4 => K (x7_5 : Value) w_4)))))

theorem eq_slices_Clone_int64_int64 (s0 : Value) (w : World) (K : Value → World → Prop) :
    W Try.prog ty (fun _ _ _ _ => False) (bodyOf Try.f64) (fnPost Try.prog Try.f64.results.toList (.one .any) K) (frame0 [s0] 8) w = V_slices_Clone_int64_int64 s0 w K := by
  kernel_rfl

theorem body_slices_Clone_int64_int64 : Try.f64.body = some (bodyOf Try.f64) := by kernel_rfl
theorem name_slices_Clone_int64_int64 : (Try.f64.name == "runtime.NumGoroutine") = false := by kernel_rfl

theorem walk_slices_Clone_int64_int64 (s0 : Value) {w : World} {K : Value → World → Prop} (h : V_slices_Clone_int64_int64 s0 w K) : Fc Try.prog 64 #[s0] w (.one .any) K :=
  fn_ok follows (sound_none _) Try.func64 name_slices_Clone_int64_int64 body_slices_Clone_int64_int64 Try.ntmps64 [s0] (Eq.mpr (eq_slices_Clone_int64_int64 s0 w K) h)

-- uses S2Sl
theorem c_slices_Clone_int64_int64 {a : Value} {l : List Int} {w : World} {K : Value → World → Prop} (h : SlI w a l) (hl : l.length ≤ 1099511627776) (hK : ∀ v w', Below w.heap.size w w' → MyI w.heap.size w'.heap.size w' v l → K v w') :
    Fc Try.prog F_slices_Clone_int64_int64 #[a] w (.one .any) K := by
  refine walk_slices_Clone_int64_int64 _ (nil_I h fun b hb => ⟨fun ht => ?_, fun _ => ?_⟩)
  · have := hb ht
    subst this
    exact hK _ w (Below.refl _ _) (myI_nil _ _ _)
  · refine nilI fun b v w1 hb1 hbel ho => ?_
    refine appsI ho (h.keep hbel) (by simpa using hl) fun v' w2 b2 o m hb2 => ?_
    have hs := hbel.size
    rw [List.nil_append] at o
    exact hK _ w2 (hbel.trans (m.below (by omega) (by simp; omega))) (own_my o hl (by omega) o.lt)

end Go.Proofs.Ytkadckhealbdaaa
