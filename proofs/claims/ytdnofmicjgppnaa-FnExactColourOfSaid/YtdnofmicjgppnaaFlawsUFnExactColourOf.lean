/- The reading of laws_FnExactColourOf, and its contract. No condition. -/
import Derived.Test.YtdnofmicjgppnaaTy
import Derived.Test.YtdnofmicjgppnaaS2Sl
import Derived.Test.YtdnofmicjgppnaaFimplUColourOf
import Derived.Test.YtdnofmicjgppnaaFlawsUtoColouring
import Derived.Test.YtdnofmicjgppnaaFspecUColourOf
namespace Go.Proofs.Ytdnofmicjgppnaa
open Go Go.RowKit Eng Mem
set_option linter.unusedVariables false
set_option maxRecDepth 100000
def V_laws_FnExactColourOf (aX0 : Value) (aI1 : Int) (aJ2 : Int) (w : World) (K : Bool → World → Prop) : Prop :=
  (Pr Try.prog (Instr.box 40 aX0) w (.one .any) fun (aX3_2 : Value) w_1 => (QSub Try.prog (Instr.loadAt 40 aX3_2) w_1 .any fun (x12_3 : Value) => (Fc Try.prog 28 #[x12_3] w_1 (.one .any) fun (x13_5 : Value) w_4 => (Fc Try.prog 30 #[x13_5, (.int .i64 aI1), (.int .i64 aJ2)] w_4 (.two (.int .i64) (.int .i64)) fun (x16_7 : Int × Int) w_6 => (QSub Try.prog (Instr.loadAt 40 aX3_2) w_6 .any fun (x20_8 : Value) => (Fc Try.prog 28 #[x20_8] w_6 (.one .any) fun (x21_10 : Value) w_9 => (Fc Try.prog 31 #[x21_10, (.int .i64 aI1), (.int .i64 aJ2)] w_9 (.two (.int .i64) (.int .i64)) fun (x24_12 : Int × Int) w_11 => (((x24_12.1 != x16_7.1) = true → K false w_11) ∧ ((x24_12.1 != x16_7.1) = false → (((x24_12.2 != x16_7.2) = true → K false w_11) ∧ ((x24_12.2 != x16_7.2) = false → K true w_11)))))))))))

theorem eq_laws_FnExactColourOf (aX0 : Value) (aI1 : Int) (aJ2 : Int) (w : World) (K : Bool → World → Prop) :
    W Try.prog ty (fun _ _ _ _ => False) (bodyOf Try.f8) (fnPost Try.prog Try.f8.results.toList (.one .bool) K) (frame0 [aX0, (.int .i64 aI1), (.int .i64 aJ2)] 35) w = V_laws_FnExactColourOf aX0 aI1 aJ2 w K := by
  kernel_rfl

theorem body_laws_FnExactColourOf : Try.f8.body = some (bodyOf Try.f8) := by kernel_rfl
theorem name_laws_FnExactColourOf : (Try.f8.name == "runtime.NumGoroutine") = false := by kernel_rfl

theorem walk_laws_FnExactColourOf (aX0 : Value) (aI1 : Int) (aJ2 : Int) {w : World} {K : Bool → World → Prop} (h : V_laws_FnExactColourOf aX0 aI1 aJ2 w K) : Fc Try.prog 8 #[aX0, (.int .i64 aI1), (.int .i64 aJ2)] w (.one .bool) K :=
  fn_ok follows (sound_none _) Try.func8 name_laws_FnExactColourOf body_laws_FnExactColourOf Try.ntmps8 [aX0, (.int .i64 aI1), (.int .i64 aJ2)] (Eq.mpr (eq_laws_FnExactColourOf aX0 aI1 aJ2 w K) h)

-- uses S2Sl
theorem c_laws_FnExactColourOf {c0 : Col} {n1 : Int} {n2 : Int} {w : World} {K : Bool → World → Prop} (h0 : c0.Ok) (h1 : I64 n1) (h2 : I64 n2) (hK : ∀ w', Below w.heap.size w w' → K true w') :
    Fc Try.prog F_laws_FnExactColourOf #[c0.val, .int .i64 n1, .int .i64 n2] w (.one .bool) K := by
  refine walk_laws_FnExactColourOf _ _ _ ?_
  have B := Below.refl w.heap.size w
  refine colL_box fun b4 w1 b4_l b4_h q2 f3 => ?_
  replace B := B.trans (q2.mono B.size)
  have q2_s := q2.size
  refine colL_all h0 f3 ?_
  refine c_laws_toColouring h0 fun w5 q6 => ?_
  replace f3 := f3.keep q6
  replace B := B.trans (q6.mono B.size)
  have q6_s := q6.size
  refine c_spec_ColourOf h0 h1 h2 fun w8 q9 => ?_
  replace f3 := f3.keep q9
  replace B := B.trans (q9.mono B.size)
  have q9_s := q9.size
  refine colL_all h0 f3 ?_
  refine c_laws_toColouring h0 fun w11 q12 => ?_
  replace f3 := f3.keep q12
  replace B := B.trans (q12.mono B.size)
  have q12_s := q12.size
  refine c_impl_ColourOf h0 h1 h2 fun w14 q15 => ?_
  replace f3 := f3.keep q15
  replace B := B.trans (q15.mono B.size)
  have q15_s := q15.size
  refine ⟨fun e17 => absurd rfl (ne_t e17), fun _ => ?_⟩
  refine ⟨fun e18 => absurd rfl (ne_t e18), fun _ => ?_⟩
  exact hK _ B

end Go.Proofs.Ytdnofmicjgppnaa
