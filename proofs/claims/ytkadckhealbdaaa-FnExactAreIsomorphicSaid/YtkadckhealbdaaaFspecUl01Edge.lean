/- The reading of spec_l01Edge, and its contract. No condition. -/
import Derived.Test.YtkadckhealbdaaaTy
import Derived.Test.YtkadckhealbdaaaS5Made
namespace Go.Proofs.Ytkadckhealbdaaa
open Go Go.RowKit Eng Mem
set_option linter.unusedVariables false
set_option maxRecDepth 100000
def V_spec_l01Edge (i0 : Int) (j1 : Int) (w : World) (K : Int → World → Prop) : Prop :=
  (((decide (i0 > j1)) = true → ((2 : Int) ≠ 0 ∧ K (IntKind.i64.wrap ((IntKind.i64.wrap (Int.tdiv (IntKind.i64.wrap (i0 * (IntKind.i64.wrap (i0 - (1 : Int))))) (2 : Int))) + j1)) w)) ∧ ((decide (i0 > j1)) = false → ((2 : Int) ≠ 0 ∧ K (IntKind.i64.wrap ((IntKind.i64.wrap (Int.tdiv (IntKind.i64.wrap (j1 * (IntKind.i64.wrap (j1 - (1 : Int))))) (2 : Int))) + i0)) w)))

theorem eq_spec_l01Edge (i0 : Int) (j1 : Int) (w : World) (K : Int → World → Prop) :
    W Try.prog ty (fun _ _ _ _ => False) (bodyOf Try.f128) (fnPost Try.prog Try.f128.results.toList (.one (.int .i64)) K) (frame0 [(.int .i64 i0), (.int .i64 j1)] 22) w = V_spec_l01Edge i0 j1 w K := by
  kernel_rfl

theorem body_spec_l01Edge : Try.f128.body = some (bodyOf Try.f128) := by kernel_rfl
theorem name_spec_l01Edge : (Try.f128.name == "runtime.NumGoroutine") = false := by kernel_rfl

theorem walk_spec_l01Edge (i0 : Int) (j1 : Int) {w : World} {K : Int → World → Prop} (h : V_spec_l01Edge i0 j1 w K) : Fc Try.prog 128 #[(.int .i64 i0), (.int .i64 j1)] w (.one (.int .i64)) K :=
  fn_ok follows (sound_none _) Try.func128 name_spec_l01Edge body_spec_l01Edge Try.ntmps128 [(.int .i64 i0), (.int .i64 j1)] (Eq.mpr (eq_spec_l01Edge i0 j1 w K) h)

-- uses S5Made
theorem c_spec_l01Edge {i j : Int} {w : World} {K : Int → World → Prop} (h0 : 0 ≤ i) (h1 : i ≤ 17) (k0 : 0 ≤ j) (k1 : j ≤ 17) (hK : K (num i j) w) : Fc Try.prog F_spec_l01Edge #[.int .i64 i, .int .i64 j] w (.one (.int .i64)) K := by
  refine walk_spec_l01Edge _ _ ⟨fun h => ⟨by decide, ?_⟩, fun h => ⟨by decide, ?_⟩⟩
  · have h := dec_t h
    rw [wnum k0 k1 h0 h1]
    unfold num at hK
    rwa [if_neg (by omega)] at hK
  · have h := dec_f h
    rw [wnum h0 h1 k0 k1]
    unfold num at hK
    by_cases h' : i < j
    · rwa [if_pos h'] at hK
    · have : i = j := by omega
      subst this
      rwa [if_neg h'] at hK

end Go.Proofs.Ytkadckhealbdaaa
