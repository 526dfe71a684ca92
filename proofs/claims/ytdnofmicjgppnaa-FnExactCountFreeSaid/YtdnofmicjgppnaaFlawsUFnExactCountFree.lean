/- The reading of laws_FnExactCountFree, and its contract. No condition. -/
import Derived.Test.YtdnofmicjgppnaaTy
import Derived.Test.YtdnofmicjgppnaaS2Sl
import Derived.Test.YtdnofmicjgppnaaFimplUCountFree
import Derived.Test.YtdnofmicjgppnaaFspecUCountFree
namespace Go.Proofs.Ytdnofmicjgppnaa
open Go Go.RowKit Eng Mem
set_option linter.unusedVariables false
set_option maxRecDepth 100000
def V_laws_FnExactCountFree (aN0 : Int) (aK1 : Int) (aKind2 : Int) (w : World) (K : Bool → World → Prop) : Prop :=
  (Fc Try.prog 40 #[(.int .i64 aN0), (.int .i64 aK1), (.int .i64 aKind2)] w (.two (.int .i64) (.int .i64)) fun (x15_2 : Int × Int) w_1 => (Fc Try.prog 41 #[(.int .i64 aN0), (.int .i64 aK1), (.int .i64 aKind2)] w_1 (.two (.int .i64) (.int .i64)) fun (x22_4 : Int × Int) w_3 => (((x22_4.1 != x15_2.1) = true → K false w_3) ∧ ((x22_4.1 != x15_2.1) = false → (((x22_4.2 != x15_2.2) = true → K false w_3) ∧ ((x22_4.2 != x15_2.2) = false → K true w_3))))))

theorem eq_laws_FnExactCountFree (aN0 : Int) (aK1 : Int) (aKind2 : Int) (w : World) (K : Bool → World → Prop) :
    W Try.prog ty (fun _ _ _ _ => False) (bodyOf Try.f13) (fnPost Try.prog Try.f13.results.toList (.one .bool) K) (frame0 [(.int .i64 aN0), (.int .i64 aK1), (.int .i64 aKind2)] 33) w = V_laws_FnExactCountFree aN0 aK1 aKind2 w K := by
  kernel_rfl

theorem body_laws_FnExactCountFree : Try.f13.body = some (bodyOf Try.f13) := by kernel_rfl
theorem name_laws_FnExactCountFree : (Try.f13.name == "runtime.NumGoroutine") = false := by kernel_rfl

theorem walk_laws_FnExactCountFree (aN0 : Int) (aK1 : Int) (aKind2 : Int) {w : World} {K : Bool → World → Prop} (h : V_laws_FnExactCountFree aN0 aK1 aKind2 w K) : Fc Try.prog 13 #[(.int .i64 aN0), (.int .i64 aK1), (.int .i64 aKind2)] w (.one .bool) K :=
  fn_ok follows (sound_none _) Try.func13 name_laws_FnExactCountFree body_laws_FnExactCountFree Try.ntmps13 [(.int .i64 aN0), (.int .i64 aK1), (.int .i64 aKind2)] (Eq.mpr (eq_laws_FnExactCountFree aN0 aK1 aKind2 w K) h)

-- uses S2Sl
theorem c_laws_FnExactCountFree {n0 : Int} {n1 : Int} {n2 : Int} {w : World} {K : Bool → World → Prop} (h0 : I64 n0) (h1 : I64 n1) (h2 : I64 n2) (hK : ∀ w', Below w.heap.size w w' → K true w') :
    Fc Try.prog F_laws_FnExactCountFree #[.int .i64 n0, .int .i64 n1, .int .i64 n2] w (.one .bool) K := by
  refine walk_laws_FnExactCountFree _ _ _ ?_
  have B := Below.refl w.heap.size w
  refine c_spec_CountFree h0 h1 h2 fun w1 q2 => ?_
  replace B := B.trans (q2.mono B.size)
  have q2_s := q2.size
  refine c_impl_CountFree h0 h1 h2 fun w4 q5 => ?_
  replace B := B.trans (q5.mono B.size)
  have q5_s := q5.size
  refine ⟨fun e7 => absurd rfl (ne_t e7), fun _ => ?_⟩
  refine ⟨fun e8 => absurd rfl (ne_t e8), fun _ => ?_⟩
  exact hK _ B

end Go.Proofs.Ytdnofmicjgppnaa
