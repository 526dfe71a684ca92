/- The reading of laws_FnExactCircularOf, and its contract. No condition. -/
import Derived.Test.YtdkodhonaoecnaaTy
import Derived.Test.YtdkodhonaoecnaaS2Sl
import Derived.Test.YtdkodhonaoecnaaFimplUCircularOf
import Derived.Test.YtdkodhonaoecnaaFlawsUeqColouring
import Derived.Test.YtdkodhonaoecnaaFlawsUeqInt64S
import Derived.Test.YtdkodhonaoecnaaFlawsUtoInt64S
import Derived.Test.YtdkodhonaoecnaaFspecUCircularOf
namespace Go.Proofs.Ytdkodhonaoecnaa
open Go Go.RowKit Eng Mem
set_option linter.unusedVariables false
set_option maxRecDepth 100000
def V_laws_FnExactCircularOf (aN0 : Int) (aK1 : Int) (aList2 : Value) (w : World) (K : Bool → World → Prop) : Prop :=
  (QAll Try.prog (Builtin.len_ #[25] 3 #[aList2]) (.int .i64) fun (x13_1 : Int) => (((decide (x13_1 > (1048576 : Int))) = true → K true w) ∧ ((decide (x13_1 > (1048576 : Int))) = false → (Fc Try.prog 18 #[aList2] w (.one .any) fun (x19_3 : Value) w_2 => (Fc Try.prog 17 #[(.int .i64 aN0), (.int .i64 aK1), x19_3] w_2 (.two .any (.int .i64)) fun (x20_5 : Value × Int) w_4 => (Pr Try.prog (Instr.alloc 28 true (.tuple #[])) w_4 (.one .any) fun (w07_7 : Value) w_6 => (PrU Try.prog (Instr.storeAt 28 w07_7 x20_5.1) w_6 fun w_8 => (Fc Try.prog 18 #[aList2] w_8 (.one .any) fun (x24_11 : Value) w_10 => (Fc Try.prog 19 #[(.int .i64 aN0), (.int .i64 aK1), x24_11] w_10 (.two .any (.int .i64)) fun (x29_13 : Value × Int) w_12 => (Pr Try.prog (Instr.alloc 28 true (.tuple #[])) w_12 (.one .any) fun (g010_15 : Value) w_14 => (PrU Try.prog (Instr.storeAt 28 g010_15 x29_13.1) w_14 fun w_16 => (QSub Try.prog (Instr.loadAt 28 g010_15) w_16 .any fun (x32_18 : Value) => (QSub Try.prog (Instr.loadAt 28 w07_7) w_16 .any fun (x33_19 : Value) => (Fc Try.prog 20 #[x32_18, x33_19] w_16 (.one .bool) fun (x34_21 : Bool) w_20 => (((!x34_21) = true → K false w_20) ∧ ((!x34_21) = false → (((x29_13.2 != x20_5.2) = true → K false w_20) ∧ ((x29_13.2 != x20_5.2) = false → (Fc Try.prog 18 #[aList2] w_20 (.one .any) fun (x43_23 : Value) w_22 => (Fc Try.prog 21 #[x24_11, x43_23] w_22 (.one .bool) fun (x44_25 : Bool) w_24 => (((!x44_25) = true → K false w_24) ∧ ((!x44_25) = false → K true w_24))))))))))))))))))))))

theorem eq_laws_FnExactCircularOf (aN0 : Int) (aK1 : Int) (aList2 : Value) (w : World) (K : Bool → World → Prop) :
    W Try.prog ty (fun _ _ _ _ => False) (bodyOf Try.f4) (fnPost Try.prog Try.f4.results.toList (.one .bool) K) (frame0 [(.int .i64 aN0), (.int .i64 aK1), aList2] 46) w = V_laws_FnExactCircularOf aN0 aK1 aList2 w K := by
  kernel_rfl

theorem body_laws_FnExactCircularOf : Try.f4.body = some (bodyOf Try.f4) := by kernel_rfl
theorem name_laws_FnExactCircularOf : (Try.f4.name == "runtime.NumGoroutine") = false := by kernel_rfl

theorem walk_laws_FnExactCircularOf (aN0 : Int) (aK1 : Int) (aList2 : Value) {w : World} {K : Bool → World → Prop} (h : V_laws_FnExactCircularOf aN0 aK1 aList2 w K) : Fc Try.prog 4 #[(.int .i64 aN0), (.int .i64 aK1), aList2] w (.one .bool) K :=
  fn_ok follows (sound_none _) Try.func4 name_laws_FnExactCircularOf body_laws_FnExactCircularOf Try.ntmps4 [(.int .i64 aN0), (.int .i64 aK1), aList2] (Eq.mpr (eq_laws_FnExactCircularOf aN0 aK1 aList2 w K) h)

-- uses S2Sl
theorem c_laws_FnExactCircularOf {n0 : Int} {n1 : Int} {a2 : Value} {l2 : List Int} {w : World} {K : Bool → World → Prop} (h0 : I64 n0) (h1 : I64 n1) (h2 : SlI w a2 l2 ∧ InI l2) (hK : ∀ w', Below w.heap.size w w' → K true w') :
    Fc Try.prog F_laws_FnExactCircularOf #[.int .i64 n0, .int .i64 n1, a2] w (.one .bool) K := by
  refine walk_laws_FnExactCircularOf _ _ _ ?_
  have B := Below.refl w.heap.size w
  refine lenI h2.1 ?_
  refine ⟨fun _ => hK _ B, fun e1 => ?_⟩
  have e1 := dec_f e1
  replace h2 : ArgI _ _ _ := ⟨h2.1, by first | omega | (have := h2.1.len; omega), h2.2⟩
  have h20 := h2
  refine c_laws_toInt64S h2 fun v5 w2 q3 f4 => ?_
  replace h2 := h2.keep q3
  replace B := B.trans (q3.mono B.size)
  have f4_in := h2.ins
  have q3_s := q3.size
  refine c_spec_CircularOf h0 h1 ⟨f4.sl, h2.len, h2.ins⟩ fun w6 q7 o9 => ?_
  replace h2 := h2.keep q7
  replace f4 := f4.keep q7
  replace B := B.trans (q7.mono B.size)
  have q7_s := q7.size
  refine col_var o9 fun b13 w10 b13_l b13_h q11 f12 => ?_
  replace h2 := h2.keep q11
  replace f4 := f4.keep q11
  replace B := B.trans (q11.mono B.size)
  have q11_s := q11.size
  refine c_laws_toInt64S h2 fun v17 w14 q15 f16 => ?_
  replace h2 := h2.keep q15
  replace f4 := f4.keep q15
  replace f12 := f12.keep q15
  replace B := B.trans (q15.mono B.size)
  have f16_in := h2.ins
  have q15_s := q15.size
  refine c_impl_CircularOf h0 h1 ⟨f16.sl, h2.len, h2.ins⟩ fun w18 q19 o21 => ?_
  replace h2 := h2.keep q19
  replace f4 := f4.keep q19
  replace f12 := f12.keep q19
  replace f16 := f16.keep q19
  replace B := B.trans (q19.mono B.size)
  have q19_s := q19.size
  refine col_var o21 fun b25 w22 b25_l b25_h q23 f24 => ?_
  replace h2 := h2.keep q23
  replace f4 := f4.keep q23
  replace f12 := f12.keep q23
  replace f16 := f16.keep q23
  replace B := B.trans (q23.mono B.size)
  have q23_s := q23.size
  refine col_all o21 f24 ?_
  refine col_all o9 f12 ?_
  refine c_laws_eqColouring o21 o9 fun w26 q27 => ?_
  replace h2 := h2.keep q27
  replace f4 := f4.keep q27
  replace f12 := f12.keep q27
  replace f16 := f16.keep q27
  replace f24 := f24.keep q27
  replace B := B.trans (q27.mono B.size)
  have q27_s := q27.size
  refine ⟨fun e29 => absurd rfl (notd_t e29), fun _ => ?_⟩
  refine ⟨fun e30 => absurd rfl (ne_t e30), fun _ => ?_⟩
  refine c_laws_toInt64S h2 fun v34 w31 q32 f33 => ?_
  replace h2 := h2.keep q32
  replace f4 := f4.keep q32
  replace f12 := f12.keep q32
  replace f16 := f16.keep q32
  replace f24 := f24.keep q32
  replace B := B.trans (q32.mono B.size)
  have f33_in := h2.ins
  have q32_s := q32.size
  refine c_laws_eqInt64S f16.sl f33.sl fun w35 q36 => ?_
  replace h2 := h2.keep q36
  replace f4 := f4.keep q36
  replace f12 := f12.keep q36
  replace f16 := f16.keep q36
  replace f24 := f24.keep q36
  replace f33 := f33.keep q36
  replace B := B.trans (q36.mono B.size)
  have q36_s := q36.size
  refine ⟨fun e38 => absurd rfl (notd_t e38), fun _ => ?_⟩
  exact hK _ B

end Go.Proofs.Ytdkodhonaoecnaa
