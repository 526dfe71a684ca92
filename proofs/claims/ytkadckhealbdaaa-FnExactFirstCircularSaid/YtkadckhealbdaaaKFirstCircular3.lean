/- Texts that the law FnExactFirstCircular needs, joined. No condition. -/
import Derived.Test.YtkadckhealbdaaaKFirstCircular2
set_option linter.all false
/- The reading of laws_FnExactFirstCircular, and its contract. No condition. -/
namespace Go.Proofs.Ytkadckhealbdaaa
open Go Go.RowKit Eng Mem
set_option linter.unusedVariables false
set_option maxRecDepth 100000
def V_laws_FnExactFirstCircular (aN0 : Int) (aSizes1 : Value) (w : World) (K : Bool → World → Prop) : Prop :=
  (QAll Try.prog (Builtin.len_ #[31] 3 #[aSizes1]) (.int .i64) fun (x11_1 : Int) => (((decide (x11_1 > (1048576 : Int))) = true → K true w) ∧ ((decide (x11_1 > (1048576 : Int))) = false → (Fc Try.prog 24 #[aSizes1] w (.one .any) fun (x16_3 : Value) w_2 => (Fc Try.prog 36 #[(.int .i64 aN0), x16_3] w_2 (.two .any (.int .i64)) fun (x17_5 : Value × Int) w_4 => (Pr Try.prog (Instr.alloc 25 true (.tuple #[])) w_4 (.one .any) fun (w05_7 : Value) w_6 => (PrU Try.prog (Instr.storeAt 25 w05_7 x17_5.1) w_6 fun w_8 => (Fc Try.prog 24 #[aSizes1] w_8 (.one .any) fun (x21_11 : Value) w_10 => (Fc Try.prog 37 #[(.int .i64 aN0), x21_11] w_10 (.two .any (.int .i64)) fun (x25_13 : Value × Int) w_12 => (Pr Try.prog (Instr.alloc 25 true (.tuple #[])) w_12 (.one .any) fun (g08_15 : Value) w_14 => (PrU Try.prog (Instr.storeAt 25 g08_15 x25_13.1) w_14 fun w_16 => (QSub Try.prog (Instr.loadAt 25 g08_15) w_16 .any fun (x28_18 : Value) => (QSub Try.prog (Instr.loadAt 25 w05_7) w_16 .any fun (x29_19 : Value) => (Fc Try.prog 17 #[x28_18, x29_19] w_16 (.one .bool) fun (x30_21 : Bool) w_20 => (((!x30_21) = true → K false w_20) ∧ ((!x30_21) = false → (((x25_13.2 != x17_5.2) = true → K false w_20) ∧ ((x25_13.2 != x17_5.2) = false → (Fc Try.prog 24 #[aSizes1] w_20 (.one .any) fun (x39_23 : Value) w_22 => (Fc Try.prog 20 #[x21_11, x39_23] w_22 (.one .bool) fun (x40_25 : Bool) w_24 => (((!x40_25) = true → K false w_24) ∧ ((!x40_25) = false → K true w_24))))))))))))))))))))))

theorem eq_laws_FnExactFirstCircular (aN0 : Int) (aSizes1 : Value) (w : World) (K : Bool → World → Prop) :
    W Try.prog ty (fun _ _ _ _ => False) (bodyOf Try.f11) (fnPost Try.prog Try.f11.results.toList (.one .bool) K) (frame0 [(.int .i64 aN0), aSizes1] 42) w = V_laws_FnExactFirstCircular aN0 aSizes1 w K := by
  kernel_rfl

theorem body_laws_FnExactFirstCircular : Try.f11.body = some (bodyOf Try.f11) := by kernel_rfl
theorem name_laws_FnExactFirstCircular : (Try.f11.name == "runtime.NumGoroutine") = false := by kernel_rfl

theorem walk_laws_FnExactFirstCircular (aN0 : Int) (aSizes1 : Value) {w : World} {K : Bool → World → Prop} (h : V_laws_FnExactFirstCircular aN0 aSizes1 w K) : Fc Try.prog 11 #[(.int .i64 aN0), aSizes1] w (.one .bool) K :=
  fn_ok follows (sound_none _) Try.func11 name_laws_FnExactFirstCircular body_laws_FnExactFirstCircular Try.ntmps11 [(.int .i64 aN0), aSizes1] (Eq.mpr (eq_laws_FnExactFirstCircular aN0 aSizes1 w K) h)

-- uses S2Sl
-- uses S9Law
theorem c_laws_FnExactFirstCircular {n0 : Int} {a1 : Value} {l1 : List Int} {w : World} {K : Bool → World → Prop} (h0 : I64 n0) (h1 : SlI w a1 l1 ∧ InI l1) (hK : ∀ w', Below w.heap.size w w' → K true w') :
    Fc Try.prog F_laws_FnExactFirstCircular #[.int .i64 n0, a1] w (.one .bool) K := by
  refine walk_laws_FnExactFirstCircular _ _ ?_
  have B := Below.refl w.heap.size w
  refine lenI h1.1 ?_
  refine ⟨fun _ => hK _ B, fun e1 => ?_⟩
  have e1 := dec_f e1
  replace h1 : ArgI _ _ _ := ⟨h1.1, by first | omega | (have := h1.1.len; omega), h1.2⟩
  have h10 := h1
  refine c_laws_toInt64S h1 fun v5 w2 q3 f4 => ?_
  replace h1 := h1.keep q3
  replace B := B.trans (q3.mono B.size)
  have f4_in := h1.ins
  have q3_s := q3.size
  refine c_spec_FirstCircular h0 ⟨f4.sl, h1.len, h1.ins⟩ fun w6 q7 o9 => ?_
  replace h1 := h1.keep q7
  replace f4 := f4.keep q7
  replace B := B.trans (q7.mono B.size)
  have q7_s := q7.size
  refine col_var o9 fun b14 w11 b14_l b14_h q12 f13 => ?_
  replace h1 := h1.keep q12
  replace f4 := f4.keep q12
  replace B := B.trans (q12.mono B.size)
  have q12_s := q12.size
  refine c_laws_toInt64S h1 fun v18 w15 q16 f17 => ?_
  replace h1 := h1.keep q16
  replace f4 := f4.keep q16
  replace f13 := f13.keep q16
  replace B := B.trans (q16.mono B.size)
  have f17_in := h1.ins
  have q16_s := q16.size
  refine c_impl_FirstCircular h0 ⟨f17.sl, h1.len, h1.ins⟩ fun w19 q20 o22 => ?_
  replace h1 := h1.keep q20
  replace f4 := f4.keep q20
  replace f13 := f13.keep q20
  replace f17 := f17.keep q20
  replace B := B.trans (q20.mono B.size)
  have q20_s := q20.size
  refine col_var o22 fun b27 w24 b27_l b27_h q25 f26 => ?_
  replace h1 := h1.keep q25
  replace f4 := f4.keep q25
  replace f13 := f13.keep q25
  replace f17 := f17.keep q25
  replace B := B.trans (q25.mono B.size)
  have q25_s := q25.size
  refine col_all o22 f26 ?_
  refine col_all o9 f13 ?_
  refine c_laws_eqColouring o22 o9 fun w28 q29 => ?_
  replace h1 := h1.keep q29
  replace f4 := f4.keep q29
  replace f13 := f13.keep q29
  replace f17 := f17.keep q29
  replace f26 := f26.keep q29
  replace B := B.trans (q29.mono B.size)
  have q29_s := q29.size
  refine ⟨fun e31 => absurd rfl (notd_t e31), fun _ => ?_⟩
  refine ⟨fun e32 => absurd rfl (ne_t e32), fun _ => ?_⟩
  refine c_laws_toInt64S h1 fun v36 w33 q34 f35 => ?_
  replace h1 := h1.keep q34
  replace f4 := f4.keep q34
  replace f13 := f13.keep q34
  replace f17 := f17.keep q34
  replace f26 := f26.keep q34
  replace B := B.trans (q34.mono B.size)
  have f35_in := h1.ins
  have q34_s := q34.size
  refine c_laws_eqInt64S f17.sl f35.sl fun w37 q38 => ?_
  replace h1 := h1.keep q38
  replace f4 := f4.keep q38
  replace f13 := f13.keep q38
  replace f17 := f17.keep q38
  replace f26 := f26.keep q38
  replace f35 := f35.keep q38
  replace B := B.trans (q38.mono B.size)
  have q38_s := q38.size
  refine ⟨fun e40 => absurd rfl (notd_t e40), fun _ => ?_⟩
  exact hK _ B

end Go.Proofs.Ytkadckhealbdaaa
