/- The reading of laws_FnExactChangeEdge, and its contract. No condition. -/
import Derived.Test.YtdkodhonaoecnaaTy
import Derived.Test.YtdkodhonaoecnaaS2Sl
import Derived.Test.YtdkodhonaoecnaaFimplUChangeEdge
import Derived.Test.YtdkodhonaoecnaaFlawsUeqColouring
import Derived.Test.YtdkodhonaoecnaaFlawsUtoColouring
import Derived.Test.YtdkodhonaoecnaaFspecUChangeEdge
namespace Go.Proofs.Ytdkodhonaoecnaa
open Go Go.RowKit Eng Mem
set_option linter.unusedVariables false
set_option maxRecDepth 100000
def V_laws_FnExactChangeEdge (aX0 : Value) (aI1 : Int) (aJ2 : Int) (aC3 : Int) (w : World) (K : Bool → World → Prop) : Prop :=
  (Pr Try.prog (Instr.box 35 aX0) w (.one .any) fun (aX4_2 : Value) w_1 => (QSub Try.prog (Instr.loadAt 35 aX4_2) w_1 .any fun (x14_3 : Value) => (Fc Try.prog 25 #[x14_3] w_1 (.one .any) fun (x15_5 : Value) w_4 => (Fc Try.prog 27 #[x15_5, (.int .i64 aI1), (.int .i64 aJ2), (.int .i64 aC3)] w_4 (.two .any (.int .i64)) fun (x19_7 : Value × Int) w_6 => (Pr Try.prog (Instr.alloc 28 true (.tuple #[])) w_6 (.one .any) fun (w09_9 : Value) w_8 => (PrU Try.prog (Instr.storeAt 28 w09_9 x19_7.1) w_8 fun w_10 => (QSub Try.prog (Instr.loadAt 35 aX4_2) w_10 .any fun (x23_12 : Value) => (Fc Try.prog 25 #[x23_12] w_10 (.one .any) fun (x24_14 : Value) w_13 => (Fc Try.prog 28 #[x24_14, (.int .i64 aI1), (.int .i64 aJ2), (.int .i64 aC3)] w_13 (.two .any (.int .i64)) fun (x28_16 : Value × Int) w_15 => (Pr Try.prog (Instr.alloc 28 true (.tuple #[])) w_15 (.one .any) fun (g011_18 : Value) w_17 => (PrU Try.prog (Instr.storeAt 28 g011_18 x28_16.1) w_17 fun w_19 => (QSub Try.prog (Instr.loadAt 28 g011_18) w_19 .any fun (x31_21 : Value) => (QSub Try.prog (Instr.loadAt 28 w09_9) w_19 .any fun (x32_22 : Value) => (Fc Try.prog 20 #[x31_21, x32_22] w_19 (.one .bool) fun (x33_24 : Bool) w_23 => (((!x33_24) = true → K false w_23) ∧ ((!x33_24) = false → (((x28_16.2 != x19_7.2) = true → K false w_23) ∧ ((x28_16.2 != x19_7.2) = false → K true w_23))))))))))))))))))

theorem eq_laws_FnExactChangeEdge (aX0 : Value) (aI1 : Int) (aJ2 : Int) (aC3 : Int) (w : World) (K : Bool → World → Prop) :
    W Try.prog ty (fun _ _ _ _ => False) (bodyOf Try.f7) (fnPost Try.prog Try.f7.results.toList (.one .bool) K) (frame0 [aX0, (.int .i64 aI1), (.int .i64 aJ2), (.int .i64 aC3)] 40) w = V_laws_FnExactChangeEdge aX0 aI1 aJ2 aC3 w K := by
  kernel_rfl

theorem body_laws_FnExactChangeEdge : Try.f7.body = some (bodyOf Try.f7) := by kernel_rfl
theorem name_laws_FnExactChangeEdge : (Try.f7.name == "runtime.NumGoroutine") = false := by kernel_rfl

theorem walk_laws_FnExactChangeEdge (aX0 : Value) (aI1 : Int) (aJ2 : Int) (aC3 : Int) {w : World} {K : Bool → World → Prop} (h : V_laws_FnExactChangeEdge aX0 aI1 aJ2 aC3 w K) : Fc Try.prog 7 #[aX0, (.int .i64 aI1), (.int .i64 aJ2), (.int .i64 aC3)] w (.one .bool) K :=
  fn_ok follows (sound_none _) Try.func7 name_laws_FnExactChangeEdge body_laws_FnExactChangeEdge Try.ntmps7 [aX0, (.int .i64 aI1), (.int .i64 aJ2), (.int .i64 aC3)] (Eq.mpr (eq_laws_FnExactChangeEdge aX0 aI1 aJ2 aC3 w K) h)

-- uses S2Sl
theorem c_laws_FnExactChangeEdge {c0 : Col} {n1 : Int} {n2 : Int} {n3 : Int} {w : World} {K : Bool → World → Prop} (h0 : c0.Ok) (h1 : I64 n1) (h2 : I64 n2) (h3 : I64 n3) (hK : ∀ w', Below w.heap.size w w' → K true w') :
    Fc Try.prog F_laws_FnExactChangeEdge #[c0.val, .int .i64 n1, .int .i64 n2, .int .i64 n3] w (.one .bool) K := by
  refine walk_laws_FnExactChangeEdge _ _ _ _ ?_
  have B := Below.refl w.heap.size w
  refine colL_box fun b4 w1 b4_l b4_h q2 f3 => ?_
  replace B := B.trans (q2.mono B.size)
  have q2_s := q2.size
  refine colL_all h0 f3 ?_
  refine c_laws_toColouring h0 fun w5 q6 => ?_
  replace f3 := f3.keep q6
  replace B := B.trans (q6.mono B.size)
  have q6_s := q6.size
  refine c_spec_ChangeEdge h0 h1 h2 h3 fun w8 q9 o11 => ?_
  replace f3 := f3.keep q9
  replace B := B.trans (q9.mono B.size)
  have q9_s := q9.size
  refine col_var o11 fun b15 w12 b15_l b15_h q13 f14 => ?_
  replace f3 := f3.keep q13
  replace B := B.trans (q13.mono B.size)
  have q13_s := q13.size
  refine colL_all h0 f3 ?_
  refine c_laws_toColouring h0 fun w16 q17 => ?_
  replace f3 := f3.keep q17
  replace f14 := f14.keep q17
  replace B := B.trans (q17.mono B.size)
  have q17_s := q17.size
  refine c_impl_ChangeEdge h0 h1 h2 h3 fun w19 q20 o22 => ?_
  replace f3 := f3.keep q20
  replace f14 := f14.keep q20
  replace B := B.trans (q20.mono B.size)
  have q20_s := q20.size
  refine col_var o22 fun b26 w23 b26_l b26_h q24 f25 => ?_
  replace f3 := f3.keep q24
  replace f14 := f14.keep q24
  replace B := B.trans (q24.mono B.size)
  have q24_s := q24.size
  refine col_all o22 f25 ?_
  refine col_all o11 f14 ?_
  refine c_laws_eqColouring o22 o11 fun w27 q28 => ?_
  replace f3 := f3.keep q28
  replace f14 := f14.keep q28
  replace f25 := f25.keep q28
  replace B := B.trans (q28.mono B.size)
  have q28_s := q28.size
  refine ⟨fun e30 => absurd rfl (notd_t e30), fun _ => ?_⟩
  refine ⟨fun e31 => absurd rfl (ne_t e31), fun _ => ?_⟩
  exact hK _ B

end Go.Proofs.Ytdkodhonaoecnaa
