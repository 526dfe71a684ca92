/- The reading of laws_FnExactJoinColours, and its contract. No condition. -/
import Derived.Test.YtkadckhealbdaaaTy
import Derived.Test.YtkadckhealbdaaaS2Sl
import Derived.Test.YtkadckhealbdaaaS9Law
import Derived.Test.YtkadckhealbdaaaFimplUJoinColours
import Derived.Test.YtkadckhealbdaaaFlawsUeqColouring
import Derived.Test.YtkadckhealbdaaaFlawsUtoColouring
import Derived.Test.YtkadckhealbdaaaFspecUJoinColours
namespace Go.Proofs.Ytkadckhealbdaaa
open Go Go.RowKit Eng Mem
set_option linter.unusedVariables false
set_option maxRecDepth 100000
def V_laws_FnExactJoinColours (aX0 : Value) (aC1 : Int) (aD2 : Int) (w : World) (K : Bool → World → Prop) : Prop :=
  (Pr Try.prog (Instr.box 24 aX0) w (.one .any) fun (aX3_2 : Value) w_1 => (QSub Try.prog (Instr.loadAt 24 aX3_2) w_1 .any fun (x12_3 : Value) => (Fc Try.prog 15 #[x12_3] w_1 (.one .any) fun (x13_5 : Value) w_4 => (Fc Try.prog 14 #[x13_5, (.int .i64 aC1), (.int .i64 aD2)] w_4 (.two .any (.int .i64)) fun (x16_7 : Value × Int) w_6 => (Pr Try.prog (Instr.alloc 25 true (.tuple #[])) w_6 (.one .any) fun (w07_9 : Value) w_8 => (PrU Try.prog (Instr.storeAt 25 w07_9 x16_7.1) w_8 fun w_10 => (QSub Try.prog (Instr.loadAt 24 aX3_2) w_10 .any fun (x20_12 : Value) => (Fc Try.prog 15 #[x20_12] w_10 (.one .any) fun (x21_14 : Value) w_13 => (Fc Try.prog 16 #[x21_14, (.int .i64 aC1), (.int .i64 aD2)] w_13 (.two .any (.int .i64)) fun (x24_16 : Value × Int) w_15 => (Pr Try.prog (Instr.alloc 25 true (.tuple #[])) w_15 (.one .any) fun (g09_18 : Value) w_17 => (PrU Try.prog (Instr.storeAt 25 g09_18 x24_16.1) w_17 fun w_19 => (QSub Try.prog (Instr.loadAt 25 g09_18) w_19 .any fun (x27_21 : Value) => (QSub Try.prog (Instr.loadAt 25 w07_9) w_19 .any fun (x28_22 : Value) => (Fc Try.prog 17 #[x27_21, x28_22] w_19 (.one .bool) fun (x29_24 : Bool) w_23 => (((!x29_24) = true → K false w_23) ∧ ((!x29_24) = false → (((x24_16.2 != x16_7.2) = true → K false w_23) ∧ ((x24_16.2 != x16_7.2) = false → K true w_23))))))))))))))))))

theorem eq_laws_FnExactJoinColours (aX0 : Value) (aC1 : Int) (aD2 : Int) (w : World) (K : Bool → World → Prop) :
    W Try.prog ty (fun _ _ _ _ => False) (bodyOf Try.f3) (fnPost Try.prog Try.f3.results.toList (.one .bool) K) (frame0 [aX0, (.int .i64 aC1), (.int .i64 aD2)] 36) w = V_laws_FnExactJoinColours aX0 aC1 aD2 w K := by
  kernel_rfl

theorem body_laws_FnExactJoinColours : Try.f3.body = some (bodyOf Try.f3) := by kernel_rfl
theorem name_laws_FnExactJoinColours : (Try.f3.name == "runtime.NumGoroutine") = false := by kernel_rfl

theorem walk_laws_FnExactJoinColours (aX0 : Value) (aC1 : Int) (aD2 : Int) {w : World} {K : Bool → World → Prop} (h : V_laws_FnExactJoinColours aX0 aC1 aD2 w K) : Fc Try.prog 3 #[aX0, (.int .i64 aC1), (.int .i64 aD2)] w (.one .bool) K :=
  fn_ok follows (sound_none _) Try.func3 name_laws_FnExactJoinColours body_laws_FnExactJoinColours Try.ntmps3 [aX0, (.int .i64 aC1), (.int .i64 aD2)] (Eq.mpr (eq_laws_FnExactJoinColours aX0 aC1 aD2 w K) h)

-- uses S2Sl
-- uses S9Law
theorem c_laws_FnExactJoinColours {c0 : Col} {n1 : Int} {n2 : Int} {w : World} {K : Bool → World → Prop} (h0 : c0.Ok) (h1 : I64 n1) (h2 : I64 n2) (hK : ∀ w', Below w.heap.size w w' → K true w') :
    Fc Try.prog F_laws_FnExactJoinColours #[c0.val, .int .i64 n1, .int .i64 n2] w (.one .bool) K := by
  refine walk_laws_FnExactJoinColours _ _ _ ?_
  have B := Below.refl w.heap.size w
  refine colL_box fun b4 w1 b4_l b4_h q2 f3 => ?_
  replace B := B.trans (q2.mono B.size)
  have q2_s := q2.size
  refine colL_all h0 f3 ?_
  refine c_laws_toColouring h0 fun w5 q6 => ?_
  replace f3 := f3.keep q6
  replace B := B.trans (q6.mono B.size)
  have q6_s := q6.size
  refine c_spec_JoinColours h0 h1 h2 fun w8 q9 o11 => ?_
  replace f3 := f3.keep q9
  replace B := B.trans (q9.mono B.size)
  have q9_s := q9.size
  refine col_var o11 fun b15 w12 b15_l b15_h q13 f14 => ?_
  replace f3 := f3.keep q13
  replace B := B.trans (q13.mono B.size)
  have q13_s := q13.size
  refine colL_all h0 f3 ?_
  refine c_laws_toColouring h0 fun w16 q17 => ?_
  replace f3 := f3.keep q17
  replace f14 := f14.keep q17
  replace B := B.trans (q17.mono B.size)
  have q17_s := q17.size
  refine c_impl_JoinColours h0 h1 h2 fun w19 q20 o22 => ?_
  replace f3 := f3.keep q20
  replace f14 := f14.keep q20
  replace B := B.trans (q20.mono B.size)
  have q20_s := q20.size
  refine col_var o22 fun b26 w23 b26_l b26_h q24 f25 => ?_
  replace f3 := f3.keep q24
  replace f14 := f14.keep q24
  replace B := B.trans (q24.mono B.size)
  have q24_s := q24.size
  refine col_all o22 f25 ?_
  refine col_all o11 f14 ?_
  refine c_laws_eqColouring o22 o11 fun w27 q28 => ?_
  replace f3 := f3.keep q28
  replace f14 := f14.keep q28
  replace f25 := f25.keep q28
  replace B := B.trans (q28.mono B.size)
  have q28_s := q28.size
  refine ⟨fun e30 => absurd rfl (notd_t e30), fun _ => ?_⟩
  refine ⟨fun e31 => absurd rfl (ne_t e31), fun _ => ?_⟩
  exact hK _ B

end Go.Proofs.Ytkadckhealbdaaa
