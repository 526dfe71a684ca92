/- The reading of impl_product, and its contract. No condition. -/
import Derived.Test.YtdkodhonaoecnaaTy
import Derived.Test.YtdkodhonaoecnaaS7Prod
import Derived.Test.YtdkodhonaoecnaaFimplUmade
import Derived.Test.YtdkodhonaoecnaaFimplUproductU1
namespace Go.Proofs.Ytdkodhonaoecnaa
open Go Go.RowKit Eng Mem
set_option linter.unusedVariables false
set_option maxRecDepth 100000
def V_impl_product (x0 : Value) (y1 : Value) (w : World) (K : Value → World → Prop) : Prop :=
  (Pr Try.prog (Instr.box 76 x0) w (.one .any) fun (x2_2 : Value) w_1 => (Pr Try.prog (Instr.box 76 y1) w_1 (.one .any) fun (y3_4 : Value) w_3 => (Pr Try.prog (Instr.alloc 28 true (.tuple #[])) w_3 (.one .any) fun (x4_6 : Value) w_5 => (QSub Try.prog (Instr.loadAt 76 y3_4) w_5 .any fun (x6_7 : Value) => (NilOk x6_7 ∧ (QAll Try.prog (Instr.fieldAt 28 x6_7 0) .any fun (x8_8 : Value) => (QSub Try.prog (Instr.loadAt 2 x8_8) w_5 (.int .i64) fun (x9_9 : Int) => (Pr Try.prog (Instr.alloc 2 true (.tuple #[])) w_5 (.one .any) fun (m5_11 : Value) w_10 => (PrU Try.prog (Instr.storeAt 2 m5_11 (.int .i64 x9_9)) w_10 fun w_12 => (∀ w_14, Drew w_12 w_14 → (QSub Try.prog (Instr.loadAt 76 x2_2) w_14 .any fun (x10_15 : Value) => (NilOk x10_15 ∧ (QAll Try.prog (Instr.fieldAt 28 x10_15 0) .any fun (x12_16 : Value) => (QSub Try.prog (Instr.loadAt 2 x12_16) w_14 (.int .i64) fun (x13_17 : Int) => (QSub Try.prog (Instr.loadAt 2 m5_11) w_14 (.int .i64) fun (x14_18 : Int) => (QSub Try.prog (Instr.loadAt 76 x2_2) w_14 .any fun (x16_19 : Value) => (NilOk x16_19 ∧ (QAll Try.prog (Instr.fieldAt 28 x16_19 1) .any fun (x18_20 : Value) => (QSub Try.prog (Instr.loadAt 2 x18_20) w_14 (.int .i64) fun (x19_21 : Int) => (QSub Try.prog (Instr.loadAt 76 y3_4) w_14 .any fun (x20_22 : Value) => (NilOk x20_22 ∧ (QAll Try.prog (Instr.fieldAt 28 x20_22 1) .any fun (x22_23 : Value) => (QSub Try.prog (Instr.loadAt 2 x22_23) w_14 (.int .i64) fun (x23_24 : Int) => (Fc Try.prog 105 #[(.int .i64 (IntKind.i64.wrap (x13_17 * x14_18))), (.int .i64 (IntKind.i64.wrap (x19_21 + x23_24))), (.func (.func 111) #[] #[m5_11, x2_2, y3_4])] w_14 (.one .any) fun (x26_26 : Value) w_25 => (Keeps w_14 w_25 ((PrU Try.prog (Instr.storeAt 28 x4_6 x26_26) w_25 fun w_27 => (QSub Try.prog (Instr.loadAt 28 x4_6) w_27 .any fun (r_29 : Value) => K (r_29 : Value) w_27))))))))))))))))))))))))))))

theorem eq_impl_product (x0 : Value) (y1 : Value) (w : World) (K : Value → World → Prop) :
    W Try.prog ty (fun _ _ _ _ => False) (bodyOf Try.f69) (fnPost Try.prog Try.f69.results.toList (.one .any) K) (frame0 [x0, y1] 27) w = V_impl_product x0 y1 w K := by
  kernel_rfl

theorem body_impl_product : Try.f69.body = some (bodyOf Try.f69) := by kernel_rfl
theorem name_impl_product : (Try.f69.name == "runtime.NumGoroutine") = false := by kernel_rfl

theorem walk_impl_product (x0 : Value) (y1 : Value) {w : World} {K : Value → World → Prop} (h : V_impl_product x0 y1 w K) : Fc Try.prog 69 #[x0, y1] w (.one .any) K :=
  fn_ok follows (sound_none _) Try.func69 name_impl_product body_impl_product Try.ntmps69 [x0, y1] (Eq.mpr (eq_impl_product x0 y1 w K) h)

-- uses S7Prod
theorem c_impl_product {vx vy : Value} {x y : Col} {w : World} {K : Value → World → Prop} (hx : x.Is) (hy : y.Is) (ox : x.Ok) (oy : y.Ok) (h : ProdIs x y) (ax : ColAt w vx x) (ay : ColAt w vy y)
    (hK : ∀ w', Below w.heap.size w w' → K (colG (x.n * y.n) (x.k + y.k) (prodG x y)).val w') : Fc Try.prog F_impl_product #[vx, vy] w (.one .any) K := by
  have one : ∀ {v : Value} {c : Col} {w : World}, ColAt w v c → v.cells = [v].toArray := fun h => by obtain ⟨a, rfl⟩ := h.isPtr; rfl
  have hok := prod_ok hx hy ox oy h
  have x1 := hx.1; have x2 := hx.2.1; have y1 := hy.1; have y2 := hy.2.1; have xk := hx.2.2.1; have yk := hy.2.2.1; have hn := h.1; have hk := h.2
  have hmul : 0 ≤ x.n * y.n := Int.mul_nonneg (by omega) (by omega)
  refine walk_impl_product _ _ (box [vx] (one ax) fun b1 w1 n1 => box [vy] (one ay) fun b2 w2 n2 => c_alloc fun p w3 hb3 hv => ?_)
  have q2 := n1.below.trans (n2.below.mono n1.below.size)
  have q3 := q2.trans (hb3.mono q2.size)
  have cx : Cell w3 (ptr b1 0) vx := ((row_all (cs := [_]) n1.at_).keep n2.below).keep hb3
  have cy : Cell w3 (ptr b2 0) vy := (row_all (cs := [_]) n2.at_).keep hb3
  have hs2 := q2.size; have hs3 := hb3.size; have hs := q3.size
  have ay3 := ay.keep q3
  refine ld (k := .any) y1PC cy ⟨ay3.nonnil, col_n ay3 (alloc1 yI fun b4 w4 n4 => st yI n4.at_ (by simp) rfl fun w5 m5 s5 h5 => ?_)⟩
  have e4 := n4.here
  have b35 : Below w3.heap.size w3 w5 := n4.below.trans (m5.below (by have := n4.below.size; omega) (by simp; omega))
  intro w6 hd
  have b36 := b35.trans (hd.below w3.heap.size)
  have q6 := q3.trans (b36.mono hs)
  have hs6 := b36.size
  have cm : Cell w6 (ptr b4 0) (.int .i64 y.n) := row_all (cs := [_]) (below_at (hd.below w5.heap.size) h5 (at_lt h5))
  have cx6 := cx.keep b36
  have cy6 := cy.keep b36
  have ax6 := ax.keep q6
  have ay6 := ay.keep q6
  refine ld (k := .any) y1PC cx6 ⟨ax6.nonnil, col_n ax6 (ld (k := .int .i64) yI cm (ld (k := .any) y1PC cx6 ⟨ax6.nonnil, col_k ax6 (ld (k := .any) y1PC cy6 ⟨ay6.nonnil, col_k ay6 ?_⟩)⟩))⟩
  rw [wrap_small (n := x.n * y.n) (by omega) (by omega), wrap_small (n := x.k + y.k) (by omega) (by omega)]
  refine c_impl_made (fun e => prodG x y (pi e) (pj e)) hmul hn ⟨by omega, by omega⟩ (fun e he => ?_) (fun i j i0 i1 i2 w' K' hb' hk' => cv rfl ?_) fun w7 hb7 => ⟨hb7, ?_⟩
  · have := pair_lt hmul hn he
    exact prod_bd hx hy ox oy h _ _ this.1 this.2.1 this.2.2
  · have hp := pair_enum i0 i1 (by omega)
    simp only [hp.1, hp.2] at hk'
    exact c_impl_product_1 hx hy ox oy h (cm.keep hb') (cx6.keep hb') (cy6.keep hb') (ax6.keep hb') (ay6.keep hb') i0 i1 i2 hk'
  · have hs7 := hb7.size
    exact c_ret hok ((hv.keep b36).keep hb7) (by omega) fun w8 hb8 => hK w8 ((q6.trans (hb7.mono q6.size)).trans (hb8.mono hs2))

end Go.Proofs.Ytdkodhonaoecnaa
