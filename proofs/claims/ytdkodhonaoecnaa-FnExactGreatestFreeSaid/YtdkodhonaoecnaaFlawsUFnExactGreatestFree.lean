/- The reading of laws_FnExactGreatestFree, and its contract. No condition. -/
import Derived.Test.YtdkodhonaoecnaaTy
import Derived.Test.YtdkodhonaoecnaaS2Sl
import Derived.Test.YtdkodhonaoecnaaFimplUGreatestFree
import Derived.Test.YtdkodhonaoecnaaFspecUGreatestFree
namespace Go.Proofs.Ytdkodhonaoecnaa
open Go Go.RowKit Eng Mem
set_option linter.unusedVariables false
set_option maxRecDepth 100000
def V_laws_FnExactGreatestFree (aK0 : Int) (aKind1 : Int) (w : World) (K : Bool → World → Prop) : Prop :=
  (Fc Try.prog 22 #[(.int .i64 aK0), (.int .i64 aKind1)] w (.two (.int .i64) (.int .i64)) fun (x12_2 : Int × Int) w_1 => (Fc Try.prog 23 #[(.int .i64 aK0), (.int .i64 aKind1)] w_1 (.two (.int .i64) (.int .i64)) fun (x18_4 : Int × Int) w_3 => (((x18_4.1 != x12_2.1) = true → K false w_3) ∧ ((x18_4.1 != x12_2.1) = false → (((x18_4.2 != x12_2.2) = true → K false w_3) ∧ ((x18_4.2 != x12_2.2) = false → K true w_3))))))

theorem eq_laws_FnExactGreatestFree (aK0 : Int) (aKind1 : Int) (w : World) (K : Bool → World → Prop) :
    W Try.prog ty (fun _ _ _ _ => False) (bodyOf Try.f5) (fnPost Try.prog Try.f5.results.toList (.one .bool) K) (frame0 [(.int .i64 aK0), (.int .i64 aKind1)] 29) w = V_laws_FnExactGreatestFree aK0 aKind1 w K := by
  kernel_rfl

theorem body_laws_FnExactGreatestFree : Try.f5.body = some (bodyOf Try.f5) := by kernel_rfl
theorem name_laws_FnExactGreatestFree : (Try.f5.name == "runtime.NumGoroutine") = false := by kernel_rfl

theorem walk_laws_FnExactGreatestFree (aK0 : Int) (aKind1 : Int) {w : World} {K : Bool → World → Prop} (h : V_laws_FnExactGreatestFree aK0 aKind1 w K) : Fc Try.prog 5 #[(.int .i64 aK0), (.int .i64 aKind1)] w (.one .bool) K :=
  fn_ok follows (sound_none _) Try.func5 name_laws_FnExactGreatestFree body_laws_FnExactGreatestFree Try.ntmps5 [(.int .i64 aK0), (.int .i64 aKind1)] (Eq.mpr (eq_laws_FnExactGreatestFree aK0 aKind1 w K) h)

-- uses S2Sl
theorem c_laws_FnExactGreatestFree {n0 : Int} {n1 : Int} {w : World} {K : Bool → World → Prop} (h0 : I64 n0) (h1 : I64 n1) (hK : ∀ w', Below w.heap.size w w' → K true w') :
    Fc Try.prog F_laws_FnExactGreatestFree #[.int .i64 n0, .int .i64 n1] w (.one .bool) K := by
  refine walk_laws_FnExactGreatestFree _ _ ?_
  have B := Below.refl w.heap.size w
  refine c_spec_GreatestFree h0 h1 fun w1 q2 => ?_
  replace B := B.trans (q2.mono B.size)
  have q2_s := q2.size
  refine c_impl_GreatestFree h0 h1 fun w4 q5 => ?_
  replace B := B.trans (q5.mono B.size)
  have q5_s := q5.size
  refine ⟨fun e7 => absurd rfl (ne_t e7), fun _ => ?_⟩
  refine ⟨fun e8 => absurd rfl (ne_t e8), fun _ => ?_⟩
  exact hK _ B

end Go.Proofs.Ytdkodhonaoecnaa
