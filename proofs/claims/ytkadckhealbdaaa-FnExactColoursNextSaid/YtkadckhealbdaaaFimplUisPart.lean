/- The reading of impl_isPart, and its contract. No condition. -/
import Derived.Test.YtkadckhealbdaaaTy
import Derived.Test.YtkadckhealbdaaaS3Part
import Derived.Test.YtkadckhealbdaaaFimplUareIn
import Derived.Test.YtkadckhealbdaaaFimplUin
import Derived.Test.YtkadckhealbdaaaFimplUsizeS
namespace Go.Proofs.Ytkadckhealbdaaa
open Go Go.RowKit Eng Mem
set_option linter.unusedVariables false
set_option maxRecDepth 100000
def V_impl_isPart (k0 : Int) (part1 : Value) (w : World) (K : Bool → World → Prop) : Prop :=
  (Fc Try.prog 54 #[(.int .i64 k0), (.int .i64 (1 : Int)), (.int .i64 (3 : Int))] w (.one .bool) fun (x6_2 : Bool) w_1 => ((x6_2 = true → (QAll Try.prog (Builtin.len_ #[31] 3 #[part1]) (.int .i64) fun (x9_3 : Int) => (((decide (x9_3 ≤ (40 : Int))) = true → (Fc Try.prog 58 #[part1] w_1 (.one (.int .i64)) fun (x15_5 : Int) w_4 => (Fc Try.prog 102 #[part1, (.int .i64 x15_5), (.int .i64 (0 : Int)), (.int .i64 (IntKind.i64.wrap (k0 - (1 : Int))))] w_4 (.one .bool) fun (x18_7 : Bool) w_6 => K x18_7 w_6))) ∧ ((decide (x9_3 ≤ (40 : Int))) = false → K false w_1)))) ∧ (x6_2 = false → K false w_1)))

theorem eq_impl_isPart (k0 : Int) (part1 : Value) (w : World) (K : Bool → World → Prop) :
    W Try.prog ty (fun _ _ _ _ => False) (bodyOf Try.f92) (fnPost Try.prog Try.f92.results.toList (.one .bool) K) (frame0 [(.int .i64 k0), part1] 20) w = V_impl_isPart k0 part1 w K := by
  kernel_rfl

theorem body_impl_isPart : Try.f92.body = some (bodyOf Try.f92) := by kernel_rfl
theorem name_impl_isPart : (Try.f92.name == "runtime.NumGoroutine") = false := by kernel_rfl

theorem walk_impl_isPart (k0 : Int) (part1 : Value) {w : World} {K : Bool → World → Prop} (h : V_impl_isPart k0 part1 w K) : Fc Try.prog 92 #[(.int .i64 k0), part1] w (.one .bool) K :=
  fn_ok follows (sound_none _) Try.func92 name_impl_isPart body_impl_isPart Try.ntmps92 [(.int .i64 k0), part1] (Eq.mpr (eq_impl_isPart k0 part1 w K) h)

-- uses S3Part
theorem c_impl_isPart {k : Int} {a : Value} {l : List Int} {w : World} {K : Bool → World → Prop} (h : SlI w a l) (hK : ∀ w', Below w.heap.size w w' → K (decide (IsPart k l)) w') :
    Fc Try.prog F_impl_isPart #[.int .i64 k, a] w (.one .bool) K := by
  have no : ∀ w', Below w.heap.size w w' → ¬ IsPart k l → K false w' := fun w' hb hn => by have := hK w' hb; rwa [decide_eq_false hn] at this
  refine walk_impl_isPart _ _ (c_impl_in _ _ _ ⟨fun h1 => ?_, fun h1 => no w (Below.refl _ _) fun hp => dec_f h1 ⟨hp.1, hp.2.1⟩⟩)
  have h1 := dec_t h1
  refine lenI h ⟨fun h2 => ?_, fun h2 => no w (Below.refl _ _) fun hp => dec_f h2 (by have := hp.2.2.1; omega)⟩
  have h2 := dec_t h2
  refine c_impl_sizeS h ?_
  rw [wrap_small (by omega) (by omega)]
  refine c_impl_areIn h fun w' hb => ?_
  have := hK w' hb
  have e : decide (IsPart k l) = decide ((l.length : Int) = l.length ∧ AllIn l 0 (k - 1)) := by
    simp [IsPart, h1.1, h1.2, show l.length ≤ 40 from by omega]
  rwa [e] at this

end Go.Proofs.Ytkadckhealbdaaa
