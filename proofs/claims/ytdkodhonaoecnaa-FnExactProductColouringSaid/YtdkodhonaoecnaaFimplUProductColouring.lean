/- The reading of impl_ProductColouring, and its contract. No condition. -/
import Derived.Test.YtdkodhonaoecnaaTy
import Derived.Test.YtdkodhonaoecnaaS7Prod
import Derived.Test.YtdkodhonaoecnaaFimplUColouringUisColouring
import Derived.Test.YtdkodhonaoecnaaFimplUareSizes
import Derived.Test.YtdkodhonaoecnaaFimplUproduct
namespace Go.Proofs.Ytdkodhonaoecnaa
open Go Go.RowKit Eng Mem
set_option linter.unusedVariables false
set_option maxRecDepth 100000
def V_impl_ProductColouring (x0 : Value) (y1 : Value) (w : World) (K : (Value × Int) → World → Prop) : Prop :=
  (Pr Try.prog (Instr.box 28 x0) w (.one .any) fun (x2_2 : Value) w_1 => (Pr Try.prog (Instr.box 28 y1) w_1 (.one .any) fun (y3_4 : Value) w_3 => (Pr Try.prog (Instr.alloc 28 true (.tuple #[])) w_3 (.one .any) fun (x4_6 : Value) w_5 => (Fc Try.prog 68 #[x2_2] w_5 (.one .bool) fun (x7_8 : Bool) w_7 => (((!x7_8) = true → (Pr Try.prog (Instr.build 28 #[]) w_7 (.one .any) fun (x13_10 : Value) w_9 => (PrU Try.prog (Instr.storeAt 28 x4_6 x13_10) w_9 fun w_11 => (QSub Try.prog (Instr.loadAt 28 x4_6) w_11 .any fun (r_13 : Value) => K ((r_13 : Value), (1 : Int)) w_11)))) ∧ ((!x7_8) = false → (Fc Try.prog 68 #[y3_4] w_7 (.one .bool) fun (x10_15 : Bool) w_14 => (((!x10_15) = true → (Pr Try.prog (Instr.build 28 #[]) w_14 (.one .any) fun (x13_17 : Value) w_16 => (PrU Try.prog (Instr.storeAt 28 x4_6 x13_17) w_16 fun w_18 => (QSub Try.prog (Instr.loadAt 28 x4_6) w_18 .any fun (r_20 : Value) => K ((r_20 : Value), (1 : Int)) w_18)))) ∧ ((!x10_15) = false → (QAll Try.prog (Instr.fieldAt 28 x2_2 0) .any fun (x15_21 : Value) => (QSub Try.prog (Instr.loadAt 2 x15_21) w_14 (.int .i64) fun (x16_22 : Int) => (QAll Try.prog (Instr.fieldAt 28 y3_4 0) .any fun (x17_23 : Value) => (QSub Try.prog (Instr.loadAt 2 x17_23) w_14 (.int .i64) fun (x18_24 : Int) => (QAll Try.prog (Instr.fieldAt 28 x2_2 1) .any fun (x20_25 : Value) => (QSub Try.prog (Instr.loadAt 2 x20_25) w_14 (.int .i64) fun (x21_26 : Int) => (QAll Try.prog (Instr.fieldAt 28 y3_4 1) .any fun (x22_27 : Value) => (QSub Try.prog (Instr.loadAt 2 x22_27) w_14 (.int .i64) fun (x23_28 : Int) => (Fc Try.prog 54 #[(.int .i64 (IntKind.i64.wrap (x16_22 * x18_24))), (.int .i64 (IntKind.i64.wrap (x21_26 + x23_28)))] w_14 (.one .bool) fun (x25_30 : Bool) w_29 => (((!x25_30) = true → (Pr Try.prog (Instr.build 28 #[]) w_29 (.one .any) fun (x27_32 : Value) w_31 => (PrU Try.prog (Instr.storeAt 28 x4_6 x27_32) w_31 fun w_33 => (QSub Try.prog (Instr.loadAt 28 x4_6) w_33 .any fun (r_35 : Value) => K ((r_35 : Value), (3 : Int)) w_33)))) ∧ ((!x25_30) = false → (Fc Try.prog 69 #[x2_2, y3_4] w_29 (.one .any) fun (x28_37 : Value) w_36 => (PrU Try.prog (Instr.storeAt 28 x4_6 x28_37) w_36 fun w_38 => (QSub Try.prog (Instr.loadAt 28 x4_6) w_38 .any fun (r_40 : Value) => K ((r_40 : Value), (0 : Int)) w_38)))))))))))))))))))))))

theorem eq_impl_ProductColouring (x0 : Value) (y1 : Value) (w : World) (K : (Value × Int) → World → Prop) :
    W Try.prog ty (fun _ _ _ _ => False) (bodyOf Try.f26) (fnPost Try.prog Try.f26.results.toList (.two .any (.int .i64)) K) (frame0 [x0, y1] 29) w = V_impl_ProductColouring x0 y1 w K := by
  kernel_rfl

theorem body_impl_ProductColouring : Try.f26.body = some (bodyOf Try.f26) := by kernel_rfl
theorem name_impl_ProductColouring : (Try.f26.name == "runtime.NumGoroutine") = false := by kernel_rfl

theorem walk_impl_ProductColouring (x0 : Value) (y1 : Value) {w : World} {K : (Value × Int) → World → Prop} (h : V_impl_ProductColouring x0 y1 w K) : Fc Try.prog 26 #[x0, y1] w (.two .any (.int .i64)) K :=
  fn_ok follows (sound_none _) Try.func26 name_impl_ProductColouring body_impl_ProductColouring Try.ntmps26 [x0, y1] (Eq.mpr (eq_impl_ProductColouring x0 y1 w K) h)

-- uses S7Prod
theorem c_impl_ProductColouring {x y : Col} {w : World} {K : Value × Int → World → Prop} (ox : x.Ok) (oy : y.Ok)
    (hK : ∀ w', Below w.heap.size w w' → (prodOf x y).1.Ok → K ((prodOf x y).1.val, (prodOf x y).2) w') : Fc Try.prog F_impl_ProductColouring #[x.val, y.val] w (.two .any (.int .i64)) K := by
  have hK := fun w' hb => hK w' hb (prodOf_ok ox oy)
  unfold prodOf at hK
  refine walk_impl_ProductColouring _ _ (col_box fun b1 w1 n1 ax => col_box fun b2 w2 n2 ay => c_alloc fun p w3 hb3 hv => ?_)
  have q2 := n1.below.trans (n2.below.mono n1.below.size)
  have q3 := q2.trans (hb3.mono q2.size)
  have ax3 := (ax.keep n2.below).keep hb3
  have ay3 := ay.keep hb3
  have hs2 := q2.size; have hs3 := hb3.size
  refine c_impl_Colouring_isColouring ox ax3 fun w4 hb4 => ⟨fun e => ?_, fun e1 => ?_⟩
  · have hs4 := hb4.size
    rw [if_neg (fun hh => notd_t e hh.1)] at hK
    exact c_none (hv.keep hb4) (by omega) fun w' hb' => hK w' ((q3.trans (hb4.mono q3.size)).trans (hb'.mono hs2))
  have hx := notd_f e1
  have hs4 := hb4.size
  have q4 := q3.trans (hb4.mono q3.size)
  refine c_impl_Colouring_isColouring oy (ay3.keep hb4) fun w5 hb5 => ?_
  have hs5 := hb5.size
  have q5 := q4.trans (hb5.mono q4.size)
  have hv5 := (hv.keep hb4).keep hb5
  refine ⟨fun e => ?_, fun e2 => ?_⟩
  · rw [if_neg (fun hh => notd_t e hh.2)] at hK
    exact c_none hv5 (by omega) fun w' hb' => hK w' (q5.trans (hb'.mono hs2))
  have hy := notd_f e2
  rw [if_pos ⟨hx, hy⟩] at hK
  have x1 := hx.1; have x2 := hx.2.1; have y1 := hy.1; have y2 := hy.2.1; have xk := hx.2.2.1; have yk := hy.2.2.1; have xk4 := hx.2.2.2.1; have yk4 := hy.2.2.2.1
  have hmul : 1 ≤ x.n * y.n ∧ x.n * y.n ≤ 289 := ⟨Int.mul_le_mul (a := 1) (b := 1) (c := x.n) (d := y.n) (by omega) (by omega) (by omega) (by omega), Int.mul_le_mul (a := x.n) (b := y.n) (c := 17) (d := 17) (by omega) (by omega) (by omega) (by omega)⟩
  have ax5 := (ax3.keep hb4).keep hb5
  have ay5 := (ay3.keep hb4).keep hb5
  refine col_n ax5 (col_n ay5 (col_k ax5 (col_k ay5 ?_)))
  rw [wrap_small (n := x.n * y.n) (by omega) (by omega), wrap_small (n := x.k + y.k) (by omega) (by omega)]
  refine c_impl_areSizes _ _ ⟨fun e => ?_, fun e => ?_⟩
  · rw [if_neg (fun hh => notd_t e ⟨by omega, hh.1, by omega, hh.2⟩)] at hK
    exact c_none hv5 (by omega) fun w' hb' => hK w' (q5.trans (hb'.mono hs2))
  · have e := notd_f e
    have hp : ProdIs x y := ⟨e.2.1, e.2.2.2⟩
    rw [if_pos hp] at hK
    refine c_impl_product hx hy ox oy hp ax5 ay5 fun w6 hb6 => ?_
    have hs6 := hb6.size
    exact c_ret (prod_ok hx hy ox oy hp) (hv5.keep hb6) (by omega) fun w7 hb7 => hK w7 ((q5.trans (hb6.mono q5.size)).trans (hb7.mono hs2))

end Go.Proofs.Ytdkodhonaoecnaa
