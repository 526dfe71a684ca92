/- The reading of impl_partCode, and its contract. No condition. -/
import Derived.Test.YtkadckhealbdaaaTy
import Derived.Test.YtkadckhealbdaaaS3Part
import Derived.Test.YtkadckhealbdaaaFimplUisFaultKind
import Derived.Test.YtkadckhealbdaaaFimplUisPart
namespace Go.Proofs.Ytkadckhealbdaaa
open Go Go.RowKit Eng Mem
set_option linter.unusedVariables false
set_option maxRecDepth 100000
def V_impl_partCode (k0 : Int) (part1 : Value) (kind2 : Int) (w : World) (K : Int → World → Prop) : Prop :=
  (Fc Try.prog 92 #[(.int .i64 k0), part1] w (.one .bool) fun (x9_2 : Bool) w_1 => (((!x9_2) = true → K (2 : Int) w_1) ∧ ((!x9_2) = false → (Fc Try.prog 55 #[(.int .i64 kind2)] w_1 (.one .bool) fun (x13_4 : Bool) w_3 => (((!x13_4) = true → K (2 : Int) w_3) ∧ ((!x13_4) = false → K (0 : Int) w_3))))))

theorem eq_impl_partCode (k0 : Int) (part1 : Value) (kind2 : Int) (w : World) (K : Int → World → Prop) :
    W Try.prog ty (fun _ _ _ _ => False) (bodyOf Try.f61) (fnPost Try.prog Try.f61.results.toList (.one (.int .i64)) K) (frame0 [(.int .i64 k0), part1, (.int .i64 kind2)] 16) w = V_impl_partCode k0 part1 kind2 w K := by
  kernel_rfl

theorem body_impl_partCode : Try.f61.body = some (bodyOf Try.f61) := by kernel_rfl
theorem name_impl_partCode : (Try.f61.name == "runtime.NumGoroutine") = false := by kernel_rfl

theorem walk_impl_partCode (k0 : Int) (part1 : Value) (kind2 : Int) {w : World} {K : Int → World → Prop} (h : V_impl_partCode k0 part1 kind2 w K) : Fc Try.prog 61 #[(.int .i64 k0), part1, (.int .i64 kind2)] w (.one (.int .i64)) K :=
  fn_ok follows (sound_none _) Try.func61 name_impl_partCode body_impl_partCode Try.ntmps61 [(.int .i64 k0), part1, (.int .i64 kind2)] (Eq.mpr (eq_impl_partCode k0 part1 kind2 w K) h)

-- uses S3Part
theorem c_impl_partCode {k kind : Int} {a : Value} {l : List Int} {w : World} {K : Int → World → Prop} (h : SlI w a l) (hK : ∀ w', Below w.heap.size w w' → K (if IsPart k l ∧ 0 ≤ kind ∧ kind ≤ 2 then 0 else 2) w') :
    Fc Try.prog F_impl_partCode #[.int .i64 k, a, .int .i64 kind] w (.one (.int .i64)) K := by
  refine walk_impl_partCode _ _ _ (c_impl_isPart h fun w1 hb1 => ?_)
  have k1 := hK w1 hb1
  refine ⟨fun h1 => by rwa [if_neg (fun hh => notd_t h1 hh.1)] at k1, fun h1 => c_impl_isFaultKind _ ⟨fun h2 => by rwa [if_neg (fun hh => notd_t h2 hh.2)] at k1, fun h2 => ?_⟩⟩
  rwa [if_pos ⟨notd_f h1, notd_f h2⟩] at k1

end Go.Proofs.Ytkadckhealbdaaa
