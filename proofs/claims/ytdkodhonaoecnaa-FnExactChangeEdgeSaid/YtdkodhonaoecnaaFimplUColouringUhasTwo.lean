/- The reading of impl_Colouring_hasTwo, and its contract. No condition. -/
import Derived.Test.YtdkodhonaoecnaaTy
import Derived.Test.YtdkodhonaoecnaaS1Col
import Derived.Test.YtdkodhonaoecnaaFimplUColouringUhas
namespace Go.Proofs.Ytdkodhonaoecnaa
open Go Go.RowKit Eng Mem
set_option linter.unusedVariables false
set_option maxRecDepth 100000
def V_impl_Colouring_hasTwo (x0 : Value) (i1 : Int) (j2 : Int) (w : World) (K : Bool → World → Prop) : Prop :=
  (Fc Try.prog 112 #[x0, (.int .i64 i1)] w (.one .bool) fun (x9_2 : Bool) w_1 => ((x9_2 = true → (Fc Try.prog 112 #[x0, (.int .i64 j2)] w_1 (.one .bool) fun (x13_4 : Bool) w_3 => ((x13_4 = true → K (i1 != j2) w_3) ∧ (x13_4 = false → K false w_3)))) ∧ (x9_2 = false → K false w_1)))

theorem eq_impl_Colouring_hasTwo (x0 : Value) (i1 : Int) (j2 : Int) (w : World) (K : Bool → World → Prop) :
    W Try.prog ty (fun _ _ _ _ => False) (bodyOf Try.f74) (fnPost Try.prog Try.f74.results.toList (.one .bool) K) (frame0 [x0, (.int .i64 i1), (.int .i64 j2)] 20) w = V_impl_Colouring_hasTwo x0 i1 j2 w K := by
  kernel_rfl

theorem body_impl_Colouring_hasTwo : Try.f74.body = some (bodyOf Try.f74) := by kernel_rfl
theorem name_impl_Colouring_hasTwo : (Try.f74.name == "runtime.NumGoroutine") = false := by kernel_rfl

theorem walk_impl_Colouring_hasTwo (x0 : Value) (i1 : Int) (j2 : Int) {w : World} {K : Bool → World → Prop} (h : V_impl_Colouring_hasTwo x0 i1 j2 w K) : Fc Try.prog 74 #[x0, (.int .i64 i1), (.int .i64 j2)] w (.one .bool) K :=
  fn_ok follows (sound_none _) Try.func74 name_impl_Colouring_hasTwo body_impl_Colouring_hasTwo Try.ntmps74 [x0, (.int .i64 i1), (.int .i64 j2)] (Eq.mpr (eq_impl_Colouring_hasTwo x0 i1 j2 w K) h)

-- uses S1Col
theorem c_impl_Colouring_hasTwo {p : Value} {c : Col} {i j : Int} {w : World} {K : Bool → World → Prop} (hx : ColAt w p c) (h0 : 0 ≤ c.n) (h1 : c.n ≤ 17) (hK : K (decide ((0 ≤ i ∧ i ≤ c.n - 1) ∧ (0 ≤ j ∧ j ≤ c.n - 1) ∧ i ≠ j)) w) :
    Fc Try.prog F_impl_Colouring_hasTwo #[p, .int .i64 i, .int .i64 j] w (.one .bool) K := by
  refine walk_impl_Colouring_hasTwo _ _ _ (c_impl_Colouring_has hx h0 h1 ⟨fun h => c_impl_Colouring_has hx h0 h1 ⟨fun h' => ?_, fun h' => ?_⟩, fun h => ?_⟩)
  · have h := dec_t h; have h' := dec_t h'
    have e : (i != j) = decide ((0 ≤ i ∧ i ≤ c.n - 1) ∧ (0 ≤ j ∧ j ≤ c.n - 1) ∧ i ≠ j) := by
      rw [Bool.eq_iff_iff]; simp [h, h']
    rwa [e]
  · have h' := dec_f h'
    rwa [decide_eq_false (fun hh => h' hh.2.1)] at hK
  · have h := dec_f h
    rwa [decide_eq_false (fun hh => h hh.1)] at hK

end Go.Proofs.Ytdkodhonaoecnaa
