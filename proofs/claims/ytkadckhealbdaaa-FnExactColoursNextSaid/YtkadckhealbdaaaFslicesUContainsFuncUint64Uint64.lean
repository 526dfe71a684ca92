/- The reading of slices_ContainsFunc_int64_int64, and its contract. No condition. -/
import Derived.Test.YtkadckhealbdaaaTy
import Derived.Test.YtkadckhealbdaaaS2Sl
import Derived.Test.YtkadckhealbdaaaFslicesUIndexFuncUint64Uint64
namespace Go.Proofs.Ytkadckhealbdaaa
open Go Go.RowKit Eng Mem
set_option linter.unusedVariables false
set_option maxRecDepth 100000
def V_slices_ContainsFunc_int64_int64 (s0 : Value) (f1 : Value) (w : World) (K : Bool → World → Prop) : Prop :=
  (Fc Try.prog 137 #[s0, f1] w (.one (.int .i64)) fun (x7_2 : Int) w_1 => K (decide (x7_2 ≥ (0 : Int))) w_1)

theorem eq_slices_ContainsFunc_int64_int64 (s0 : Value) (f1 : Value) (w : World) (K : Bool → World → Prop) :
    W Try.prog ty (fun _ _ _ _ => False) (bodyOf Try.f122) (fnPost Try.prog Try.f122.results.toList (.one .bool) K) (frame0 [s0, f1] 9) w = V_slices_ContainsFunc_int64_int64 s0 f1 w K := by
  kernel_rfl

theorem body_slices_ContainsFunc_int64_int64 : Try.f122.body = some (bodyOf Try.f122) := by kernel_rfl
theorem name_slices_ContainsFunc_int64_int64 : (Try.f122.name == "runtime.NumGoroutine") = false := by kernel_rfl

theorem walk_slices_ContainsFunc_int64_int64 (s0 : Value) (f1 : Value) {w : World} {K : Bool → World → Prop} (h : V_slices_ContainsFunc_int64_int64 s0 f1 w K) : Fc Try.prog 122 #[s0, f1] w (.one .bool) K :=
  fn_ok follows (sound_none _) Try.func122 name_slices_ContainsFunc_int64_int64 body_slices_ContainsFunc_int64_int64 Try.ntmps122 [s0, f1] (Eq.mpr (eq_slices_ContainsFunc_int64_int64 s0 f1 w K) h)

-- uses S2Sl
theorem c_slices_ContainsFunc_int64_int64 {s f : Value} {l : List Int} (g : Int → Bool) {w : World} {K : Bool → World → Prop} (h : SlI w s l)
    (hf : ∀ x ∈ l, ∀ (w' : World) (K' : Bool → World → Prop), Below w.heap.size w w' → (∀ w'', Below w'.heap.size w' w'' → K' (g x) w'') → callV Try.prog f #[.int .i64 x] w' (.one .bool) K')
    (hK : ∀ w', Below w.heap.size w w' → K (l.any g) w') :
    Fc Try.prog F_slices_ContainsFunc_int64_int64 #[s, f] w (.one .bool) K := by
  refine walk_slices_ContainsFunc_int64_int64 _ _ (c_slices_IndexFunc_int64_int64 g h hf fun w' r hb hr => ?_)
  have := hK w' hb
  rcases hr with ⟨rfl, hn⟩ | ⟨i, rfl, hi, ht, _⟩
  · rw [hn] at this; exact this
  · rw [show l.any g = true from List.any_eq_true.2 ⟨l[i], List.getElem_mem hi, by simpa [List.getD, hi] using ht⟩] at this
    rw [decide_eq_true (by omega)]; exact this

end Go.Proofs.Ytkadckhealbdaaa
