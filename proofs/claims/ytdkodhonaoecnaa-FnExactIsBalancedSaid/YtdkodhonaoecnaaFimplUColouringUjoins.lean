/- The reading of impl_Colouring_joins, and its contract. No condition. -/
import Derived.Test.YtdkodhonaoecnaaTy
import Derived.Test.YtdkodhonaoecnaaS8Deg
import Derived.Test.YtdkodhonaoecnaaFimplUColouringUat
namespace Go.Proofs.Ytdkodhonaoecnaa
open Go Go.RowKit Eng Mem
set_option linter.unusedVariables false
set_option maxRecDepth 100000
def V_impl_Colouring_joins (x0 : Value) (i1 : Int) (j2 : Int) (c3 : Int) (w : World) (K : Bool → World → Prop) : Prop :=
  (((i1 != j2) = true → (Fc Try.prog 94 #[x0, (.int .i64 i1), (.int .i64 j2)] w (.one (.int .i64)) fun (x16_2 : Int) w_1 => K (x16_2 == c3) w_1)) ∧ ((i1 != j2) = false → K false w))

theorem eq_impl_Colouring_joins (x0 : Value) (i1 : Int) (j2 : Int) (c3 : Int) (w : World) (K : Bool → World → Prop) :
    W Try.prog ty (fun _ _ _ _ => False) (bodyOf Try.f130) (fnPost Try.prog Try.f130.results.toList (.one .bool) K) (frame0 [x0, (.int .i64 i1), (.int .i64 j2), (.int .i64 c3)] 20) w = V_impl_Colouring_joins x0 i1 j2 c3 w K := by
  kernel_rfl

theorem body_impl_Colouring_joins : Try.f130.body = some (bodyOf Try.f130) := by kernel_rfl
theorem name_impl_Colouring_joins : (Try.f130.name == "runtime.NumGoroutine") = false := by kernel_rfl

theorem walk_impl_Colouring_joins (x0 : Value) (i1 : Int) (j2 : Int) (c3 : Int) {w : World} {K : Bool → World → Prop} (h : V_impl_Colouring_joins x0 i1 j2 c3 w K) : Fc Try.prog 130 #[x0, (.int .i64 i1), (.int .i64 j2), (.int .i64 c3)] w (.one .bool) K :=
  fn_ok follows (sound_none _) Try.func130 name_impl_Colouring_joins body_impl_Colouring_joins Try.ntmps130 [x0, (.int .i64 i1), (.int .i64 j2), (.int .i64 c3)] (Eq.mpr (eq_impl_Colouring_joins x0 i1 j2 c3 w K) h)

-- uses S8Deg
theorem c_impl_Colouring_joins {p : Value} {c : Col} {i j col : Int} {w : World} {K : Bool → World → Prop} (hc : c.Ok) (hx : ColAt w p c) (h0 : 0 ≤ i) (h1 : i < 17) (k0 : 0 ≤ j) (k1 : j < 17) (hK : ∀ w', Below w.heap.size w w' → K (joinB c i j col) w') :
    Fc Try.prog F_impl_Colouring_joins #[p, .int .i64 i, .int .i64 j, .int .i64 col] w (.one .bool) K := by
  refine walk_impl_Colouring_joins _ _ _ _ ⟨fun hne => c_impl_Colouring_at hc hx h0 h1 k0 k1 (ne_t hne) fun w1 hb1 => ?_, fun he => ?_⟩
  · have := hK w1 hb1
    have e : joinB c i j col = (c.e (num i j).toNat == col) := by
      have hne := ne_t hne
      unfold joinB colAt
      by_cases h : c.e (num i j).toNat = col
      · simp [h, hne]
      · simp [h]
    rwa [e] at this
  · have := hK w (Below.refl _ _)
    have he := ne_f he
    rwa [show joinB c i j col = false from by simp [joinB, he]] at this

end Go.Proofs.Ytdkodhonaoecnaa
