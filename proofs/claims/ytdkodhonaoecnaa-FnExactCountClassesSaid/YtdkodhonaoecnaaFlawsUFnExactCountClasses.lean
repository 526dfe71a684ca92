/- The reading of laws_FnExactCountClasses, and its contract. No condition. -/
import Derived.Test.YtdkodhonaoecnaaTy
import Derived.Test.YtdkodhonaoecnaaS2Sl
import Derived.Test.YtdkodhonaoecnaaS9Law
import Derived.Test.YtdkodhonaoecnaaFimplUCountClasses
import Derived.Test.YtdkodhonaoecnaaFspecUCountClasses
namespace Go.Proofs.Ytdkodhonaoecnaa
open Go Go.RowKit Eng Mem
set_option linter.unusedVariables false
set_option maxRecDepth 100000
def V_laws_FnExactCountClasses (aN0 : Int) (aK1 : Int) (w : World) (K : Bool → World → Prop) : Prop :=
  (Fc Try.prog 15 #[(.int .i64 aN0), (.int .i64 aK1)] w (.two (.int .i64) (.int .i64)) fun (x12_2 : Int × Int) w_1 => (Fc Try.prog 16 #[(.int .i64 aN0), (.int .i64 aK1)] w_1 (.two (.int .i64) (.int .i64)) fun (x18_4 : Int × Int) w_3 => (((x18_4.1 != x12_2.1) = true → K false w_3) ∧ ((x18_4.1 != x12_2.1) = false → (((x18_4.2 != x12_2.2) = true → K false w_3) ∧ ((x18_4.2 != x12_2.2) = false → K true w_3))))))

theorem eq_laws_FnExactCountClasses (aN0 : Int) (aK1 : Int) (w : World) (K : Bool → World → Prop) :
    W Try.prog ty (fun _ _ _ _ => False) (bodyOf Try.f3) (fnPost Try.prog Try.f3.results.toList (.one .bool) K) (frame0 [(.int .i64 aN0), (.int .i64 aK1)] 29) w = V_laws_FnExactCountClasses aN0 aK1 w K := by
  kernel_rfl

theorem body_laws_FnExactCountClasses : Try.f3.body = some (bodyOf Try.f3) := by kernel_rfl
theorem name_laws_FnExactCountClasses : (Try.f3.name == "runtime.NumGoroutine") = false := by kernel_rfl

theorem walk_laws_FnExactCountClasses (aN0 : Int) (aK1 : Int) {w : World} {K : Bool → World → Prop} (h : V_laws_FnExactCountClasses aN0 aK1 w K) : Fc Try.prog 3 #[(.int .i64 aN0), (.int .i64 aK1)] w (.one .bool) K :=
  fn_ok follows (sound_none _) Try.func3 name_laws_FnExactCountClasses body_laws_FnExactCountClasses Try.ntmps3 [(.int .i64 aN0), (.int .i64 aK1)] (Eq.mpr (eq_laws_FnExactCountClasses aN0 aK1 w K) h)

-- uses S2Sl
-- uses S9Law
theorem c_laws_FnExactCountClasses {n0 : Int} {n1 : Int} {w : World} {K : Bool → World → Prop} (h0 : I64 n0) (h1 : I64 n1) (hK : ∀ w', Below w.heap.size w w' → K true w') :
    Fc Try.prog F_laws_FnExactCountClasses #[.int .i64 n0, .int .i64 n1] w (.one .bool) K := by
  refine walk_laws_FnExactCountClasses _ _ ?_
  have B := Below.refl w.heap.size w
  refine c_spec_CountClasses h0 h1 fun w1 q2 => ?_
  replace B := B.trans (q2.mono B.size)
  have q2_s := q2.size
  refine c_impl_CountClasses h0 h1 fun w4 q5 => ?_
  replace B := B.trans (q5.mono B.size)
  have q5_s := q5.size
  refine ⟨fun e7 => absurd rfl (ne_t e7), fun _ => ?_⟩
  refine ⟨fun e8 => absurd rfl (ne_t e8), fun _ => ?_⟩
  exact hK _ B

end Go.Proofs.Ytdkodhonaoecnaa
