/- The reading of laws_FnExactTurnColouring, and its contract. No condition. -/
import Derived.Test.YtdkodhonaoecnaaTy
import Derived.Test.YtdkodhonaoecnaaS2Sl
import Derived.Test.YtdkodhonaoecnaaFimplUTurnColouring
import Derived.Test.YtdkodhonaoecnaaFlawsUeqColouring
import Derived.Test.YtdkodhonaoecnaaFlawsUtoColouring
import Derived.Test.YtdkodhonaoecnaaFspecUTurnColouring
namespace Go.Proofs.Ytdkodhonaoecnaa
open Go Go.RowKit Eng Mem
set_option linter.unusedVariables false
set_option maxRecDepth 100000
def V_laws_FnExactTurnColouring (aX0 : Value) (aT1 : Int) (w : World) (K : Bool → World → Prop) : Prop :=
  (Pr Try.prog (Instr.box 35 aX0) w (.one .any) fun (aX2_2 : Value) w_1 => (QSub Try.prog (Instr.loadAt 35 aX2_2) w_1 .any fun (x10_3 : Value) => (Fc Try.prog 25 #[x10_3] w_1 (.one .any) fun (x11_5 : Value) w_4 => (Fc Try.prog 39 #[x11_5, (.int .i64 aT1)] w_4 (.two .any (.int .i64)) fun (x13_7 : Value × Int) w_6 => (Pr Try.prog (Instr.alloc 28 true (.tuple #[])) w_6 (.one .any) fun (w05_9 : Value) w_8 => (PrU Try.prog (Instr.storeAt 28 w05_9 x13_7.1) w_8 fun w_10 => (QSub Try.prog (Instr.loadAt 35 aX2_2) w_10 .any fun (x17_12 : Value) => (Fc Try.prog 25 #[x17_12] w_10 (.one .any) fun (x18_14 : Value) w_13 => (Fc Try.prog 40 #[x18_14, (.int .i64 aT1)] w_13 (.two .any (.int .i64)) fun (x20_16 : Value × Int) w_15 => (Pr Try.prog (Instr.alloc 28 true (.tuple #[])) w_15 (.one .any) fun (g07_18 : Value) w_17 => (PrU Try.prog (Instr.storeAt 28 g07_18 x20_16.1) w_17 fun w_19 => (QSub Try.prog (Instr.loadAt 28 g07_18) w_19 .any fun (x23_21 : Value) => (QSub Try.prog (Instr.loadAt 28 w05_9) w_19 .any fun (x24_22 : Value) => (Fc Try.prog 20 #[x23_21, x24_22] w_19 (.one .bool) fun (x25_24 : Bool) w_23 => (((!x25_24) = true → K false w_23) ∧ ((!x25_24) = false → (((x20_16.2 != x13_7.2) = true → K false w_23) ∧ ((x20_16.2 != x13_7.2) = false → K true w_23))))))))))))))))))

theorem eq_laws_FnExactTurnColouring (aX0 : Value) (aT1 : Int) (w : World) (K : Bool → World → Prop) :
    W Try.prog ty (fun _ _ _ _ => False) (bodyOf Try.f12) (fnPost Try.prog Try.f12.results.toList (.one .bool) K) (frame0 [aX0, (.int .i64 aT1)] 32) w = V_laws_FnExactTurnColouring aX0 aT1 w K := by
  kernel_rfl

theorem body_laws_FnExactTurnColouring : Try.f12.body = some (bodyOf Try.f12) := by kernel_rfl
theorem name_laws_FnExactTurnColouring : (Try.f12.name == "runtime.NumGoroutine") = false := by kernel_rfl

theorem walk_laws_FnExactTurnColouring (aX0 : Value) (aT1 : Int) {w : World} {K : Bool → World → Prop} (h : V_laws_FnExactTurnColouring aX0 aT1 w K) : Fc Try.prog 12 #[aX0, (.int .i64 aT1)] w (.one .bool) K :=
  fn_ok follows (sound_none _) Try.func12 name_laws_FnExactTurnColouring body_laws_FnExactTurnColouring Try.ntmps12 [aX0, (.int .i64 aT1)] (Eq.mpr (eq_laws_FnExactTurnColouring aX0 aT1 w K) h)

-- uses S2Sl
theorem c_laws_FnExactTurnColouring {c0 : Col} {n1 : Int} {w : World} {K : Bool → World → Prop} (h0 : c0.Ok) (h1 : I64 n1) (hK : ∀ w', Below w.heap.size w w' → K true w') :
    Fc Try.prog F_laws_FnExactTurnColouring #[c0.val, .int .i64 n1] w (.one .bool) K := by
  refine walk_laws_FnExactTurnColouring _ _ ?_
  have B := Below.refl w.heap.size w
  refine colL_box fun b4 w1 b4_l b4_h q2 f3 => ?_
  replace B := B.trans (q2.mono B.size)
  have q2_s := q2.size
  refine colL_all h0 f3 ?_
  refine c_laws_toColouring h0 fun w5 q6 => ?_
  replace f3 := f3.keep q6
  replace B := B.trans (q6.mono B.size)
  have q6_s := q6.size
  refine c_spec_TurnColouring h0 h1 fun w8 q9 o11 => ?_
  replace f3 := f3.keep q9
  replace B := B.trans (q9.mono B.size)
  have q9_s := q9.size
  refine col_var o11 fun b15 w12 b15_l b15_h q13 f14 => ?_
  replace f3 := f3.keep q13
  replace B := B.trans (q13.mono B.size)
  have q13_s := q13.size
  refine colL_all h0 f3 ?_
  refine c_laws_toColouring h0 fun w16 q17 => ?_
  replace f3 := f3.keep q17
  replace f14 := f14.keep q17
  replace B := B.trans (q17.mono B.size)
  have q17_s := q17.size
  refine c_impl_TurnColouring h0 h1 fun w19 q20 o22 => ?_
  replace f3 := f3.keep q20
  replace f14 := f14.keep q20
  replace B := B.trans (q20.mono B.size)
  have q20_s := q20.size
  refine col_var o22 fun b26 w23 b26_l b26_h q24 f25 => ?_
  replace f3 := f3.keep q24
  replace f14 := f14.keep q24
  replace B := B.trans (q24.mono B.size)
  have q24_s := q24.size
  refine col_all o22 f25 ?_
  refine col_all o11 f14 ?_
  refine c_laws_eqColouring o22 o11 fun w27 q28 => ?_
  replace f3 := f3.keep q28
  replace f14 := f14.keep q28
  replace f25 := f25.keep q28
  replace B := B.trans (q28.mono B.size)
  have q28_s := q28.size
  refine ⟨fun e30 => absurd rfl (notd_t e30), fun _ => ?_⟩
  refine ⟨fun e31 => absurd rfl (ne_t e31), fun _ => ?_⟩
  exact hK _ B

end Go.Proofs.Ytdkodhonaoecnaa
