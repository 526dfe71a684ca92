/- The reading of slices_Contains_int64_int64, and its contract. No condition. -/
import Derived.Test.YtdkodhonaoecnaaTy
import Derived.Test.YtdkodhonaoecnaaS2Sl
import Derived.Test.YtdkodhonaoecnaaFslicesUIndexUint64Uint64
namespace Go.Proofs.Ytdkodhonaoecnaa
open Go Go.RowKit Eng Mem
set_option linter.unusedVariables false
set_option maxRecDepth 100000
def V_slices_Contains_int64_int64 (s0 : Value) (v1 : Int) (w : World) (K : Bool → World → Prop) : Prop :=
  (Fc Try.prog 124 #[s0, (.int .i64 v1)] w (.one (.int .i64)) fun (x7_2 : Int) w_1 => K (decide (x7_2 ≥ (0 : Int))) w_1)

theorem eq_slices_Contains_int64_int64 (s0 : Value) (v1 : Int) (w : World) (K : Bool → World → Prop) :
    W Try.prog ty (fun _ _ _ _ => False) (bodyOf Try.f99) (fnPost Try.prog Try.f99.results.toList (.one .bool) K) (frame0 [s0, (.int .i64 v1)] 9) w = V_slices_Contains_int64_int64 s0 v1 w K := by
  kernel_rfl

theorem body_slices_Contains_int64_int64 : Try.f99.body = some (bodyOf Try.f99) := by kernel_rfl
theorem name_slices_Contains_int64_int64 : (Try.f99.name == "runtime.NumGoroutine") = false := by kernel_rfl

theorem walk_slices_Contains_int64_int64 (s0 : Value) (v1 : Int) {w : World} {K : Bool → World → Prop} (h : V_slices_Contains_int64_int64 s0 v1 w K) : Fc Try.prog 99 #[s0, (.int .i64 v1)] w (.one .bool) K :=
  fn_ok follows (sound_none _) Try.func99 name_slices_Contains_int64_int64 body_slices_Contains_int64_int64 Try.ntmps99 [s0, (.int .i64 v1)] (Eq.mpr (eq_slices_Contains_int64_int64 s0 v1 w K) h)

-- uses S2Sl
theorem c_slices_Contains_int64_int64 {s : Value} {l : List Int} {v : Int} {w : World} {K : Bool → World → Prop} (h : SlI w s l) (hK : K (l.contains v) w) :
    Fc Try.prog F_slices_Contains_int64_int64 #[s, .int .i64 v] w (.one .bool) K := by
  refine walk_slices_Contains_int64_int64 _ _ (c_slices_Index_int64_int64 h fun r hr => ?_)
  rcases hr with ⟨rfl, hn⟩ | ⟨i, rfl, hi, he, _⟩
  · rw [show l.contains v = false by simpa using hn] at hK; exact hK
  · rw [show l.contains v = true by
      have : v ∈ l := by rw [← he]; simp only [List.getD, hi, List.getElem?_eq_getElem, Option.getD_some]; exact List.getElem_mem hi
      simpa using this] at hK
    rw [decide_eq_true (by omega)]; exact hK

end Go.Proofs.Ytdkodhonaoecnaa
