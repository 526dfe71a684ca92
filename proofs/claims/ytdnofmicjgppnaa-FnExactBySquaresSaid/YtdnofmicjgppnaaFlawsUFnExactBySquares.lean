/- The reading of laws_FnExactBySquares, and its contract. No condition. -/
import Derived.Test.YtdnofmicjgppnaaTy
import Derived.Test.YtdnofmicjgppnaaS2Sl
import Derived.Test.YtdnofmicjgppnaaFimplUBySquares
import Derived.Test.YtdnofmicjgppnaaFlawsUeqColouring
import Derived.Test.YtdnofmicjgppnaaFspecUBySquares
namespace Go.Proofs.Ytdnofmicjgppnaa
open Go Go.RowKit Eng Mem
set_option linter.unusedVariables false
set_option maxRecDepth 100000
def V_laws_FnExactBySquares (aP0 : Int) (w : World) (K : Bool → World → Prop) : Prop :=
  (Fc Try.prog 23 #[(.int .i64 aP0)] w (.two .any (.int .i64)) fun (x9_2 : Value × Int) w_1 => (Pr Try.prog (Instr.alloc 31 true (.tuple #[])) w_1 (.one .any) fun (w03_4 : Value) w_3 => (PrU Try.prog (Instr.storeAt 31 w03_4 x9_2.1) w_3 fun w_5 => (Fc Try.prog 24 #[(.int .i64 aP0)] w_5 (.two .any (.int .i64)) fun (x14_8 : Value × Int) w_7 => (Pr Try.prog (Instr.alloc 31 true (.tuple #[])) w_7 (.one .any) fun (g05_10 : Value) w_9 => (PrU Try.prog (Instr.storeAt 31 g05_10 x14_8.1) w_9 fun w_11 => (QSub Try.prog (Instr.loadAt 31 g05_10) w_11 .any fun (x17_13 : Value) => (QSub Try.prog (Instr.loadAt 31 w03_4) w_11 .any fun (x18_14 : Value) => (Fc Try.prog 22 #[x17_13, x18_14] w_11 (.one .bool) fun (x19_16 : Bool) w_15 => (((!x19_16) = true → K false w_15) ∧ ((!x19_16) = false → (((x14_8.2 != x9_2.2) = true → K false w_15) ∧ ((x14_8.2 != x9_2.2) = false → K true w_15)))))))))))))

theorem eq_laws_FnExactBySquares (aP0 : Int) (w : World) (K : Bool → World → Prop) :
    W Try.prog ty (fun _ _ _ _ => False) (bodyOf Try.f5) (fnPost Try.prog Try.f5.results.toList (.one .bool) K) (frame0 [(.int .i64 aP0)] 26) w = V_laws_FnExactBySquares aP0 w K := by
  kernel_rfl

theorem body_laws_FnExactBySquares : Try.f5.body = some (bodyOf Try.f5) := by kernel_rfl
theorem name_laws_FnExactBySquares : (Try.f5.name == "runtime.NumGoroutine") = false := by kernel_rfl

theorem walk_laws_FnExactBySquares (aP0 : Int) {w : World} {K : Bool → World → Prop} (h : V_laws_FnExactBySquares aP0 w K) : Fc Try.prog 5 #[(.int .i64 aP0)] w (.one .bool) K :=
  fn_ok follows (sound_none _) Try.func5 name_laws_FnExactBySquares body_laws_FnExactBySquares Try.ntmps5 [(.int .i64 aP0)] (Eq.mpr (eq_laws_FnExactBySquares aP0 w K) h)

-- uses S2Sl
theorem c_laws_FnExactBySquares {n0 : Int} {w : World} {K : Bool → World → Prop} (h0 : I64 n0) (hK : ∀ w', Below w.heap.size w w' → K true w') :
    Fc Try.prog F_laws_FnExactBySquares #[.int .i64 n0] w (.one .bool) K := by
  refine walk_laws_FnExactBySquares _ ?_
  have B := Below.refl w.heap.size w
  refine c_spec_BySquares h0 fun w1 q2 o4 => ?_
  replace B := B.trans (q2.mono B.size)
  have q2_s := q2.size
  refine col_var o4 fun b8 w5 b8_l b8_h q6 f7 => ?_
  replace B := B.trans (q6.mono B.size)
  have q6_s := q6.size
  refine c_impl_BySquares h0 fun w9 q10 o12 => ?_
  replace f7 := f7.keep q10
  replace B := B.trans (q10.mono B.size)
  have q10_s := q10.size
  refine col_var o12 fun b16 w13 b16_l b16_h q14 f15 => ?_
  replace f7 := f7.keep q14
  replace B := B.trans (q14.mono B.size)
  have q14_s := q14.size
  refine col_all o12 f15 ?_
  refine col_all o4 f7 ?_
  refine c_laws_eqColouring o12 o4 fun w17 q18 => ?_
  replace f7 := f7.keep q18
  replace f15 := f15.keep q18
  replace B := B.trans (q18.mono B.size)
  have q18_s := q18.size
  refine ⟨fun e20 => absurd rfl (notd_t e20), fun _ => ?_⟩
  refine ⟨fun e21 => absurd rfl (ne_t e21), fun _ => ?_⟩
  exact hK _ B

end Go.Proofs.Ytdnofmicjgppnaa
