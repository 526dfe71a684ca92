/- The reading of impl_product_1, and its contract. No condition. -/
import Derived.Test.YtdkodhonaoecnaaTy
import Derived.Test.YtdkodhonaoecnaaS7Prod
import Derived.Test.YtdkodhonaoecnaaFimplUColouringUat
namespace Go.Proofs.Ytdkodhonaoecnaa
open Go Go.RowKit Eng Mem
set_option linter.unusedVariables false
set_option maxRecDepth 100000
def V_impl_product_1 (i0 : Int) (j1 : Int) (x2 : Value) (x3 : Value) (x4 : Value) (w : World) (K : Int → World → Prop) : Prop :=
  (∀ w_1, Drew w w_1 → (QSub Try.prog (Instr.loadAt 2 x2) w_1 (.int .i64) fun (x9_2 : Int) => (x9_2 ≠ 0 ∧ (QSub Try.prog (Instr.loadAt 2 x2) w_1 (.int .i64) fun (x12_3 : Int) => (x12_3 ≠ 0 ∧ ((((IntKind.i64.wrap (Int.tdiv i0 x9_2)) != (IntKind.i64.wrap (Int.tdiv j1 x12_3))) = true → (∀ w_4, Drew w_1 w_4 → (QSub Try.prog (Instr.loadAt 76 x3) w_4 .any fun (x15_5 : Value) => (QSub Try.prog (Instr.loadAt 2 x2) w_4 (.int .i64) fun (x17_6 : Int) => (x17_6 ≠ 0 ∧ (QSub Try.prog (Instr.loadAt 2 x2) w_4 (.int .i64) fun (x20_7 : Int) => (x20_7 ≠ 0 ∧ (Fc Try.prog 94 #[x15_5, (.int .i64 (IntKind.i64.wrap (Int.tdiv i0 x17_6))), (.int .i64 (IntKind.i64.wrap (Int.tdiv j1 x20_7)))] w_4 (.one (.int .i64)) fun (x22_9 : Int) w_8 => (Keeps w_4 w_8 (K x22_9 w_8)))))))))) ∧ (((IntKind.i64.wrap (Int.tdiv i0 x9_2)) != (IntKind.i64.wrap (Int.tdiv j1 x12_3))) = false → (∀ w_10, Drew w_1 w_10 → (QSub Try.prog (Instr.loadAt 76 x3) w_10 .any fun (x23_11 : Value) => (NilOk x23_11 ∧ (QAll Try.prog (Instr.fieldAt 28 x23_11 1) .any fun (x25_12 : Value) => (QSub Try.prog (Instr.loadAt 2 x25_12) w_10 (.int .i64) fun (x26_13 : Int) => (QSub Try.prog (Instr.loadAt 76 x4) w_10 .any fun (x27_14 : Value) => (QSub Try.prog (Instr.loadAt 2 x2) w_10 (.int .i64) fun (x29_15 : Int) => (x29_15 ≠ 0 ∧ (QSub Try.prog (Instr.loadAt 2 x2) w_10 (.int .i64) fun (x32_16 : Int) => (x32_16 ≠ 0 ∧ (Fc Try.prog 94 #[x27_14, (.int .i64 (Int.tmod i0 x29_15)), (.int .i64 (Int.tmod j1 x32_16))] w_10 (.one (.int .i64)) fun (x34_18 : Int) w_17 => (Keeps w_10 w_17 (K (IntKind.i64.wrap (x26_13 + x34_18)) w_17))))))))))))))))))))

theorem eq_impl_product_1 (i0 : Int) (j1 : Int) (x2 : Value) (x3 : Value) (x4 : Value) (w : World) (K : Int → World → Prop) :
    W Try.prog ty (fun _ _ _ _ => False) (bodyOf Try.f111) (fnPost Try.prog Try.f111.results.toList (.one (.int .i64)) K) (frame0 [(.int .i64 i0), (.int .i64 j1), x2, x3, x4] 36) w = V_impl_product_1 i0 j1 x2 x3 x4 w K := by
  kernel_rfl

theorem body_impl_product_1 : Try.f111.body = some (bodyOf Try.f111) := by kernel_rfl
theorem name_impl_product_1 : (Try.f111.name == "runtime.NumGoroutine") = false := by kernel_rfl

theorem walk_impl_product_1 (i0 : Int) (j1 : Int) (x2 : Value) (x3 : Value) (x4 : Value) {w : World} {K : Int → World → Prop} (h : V_impl_product_1 i0 j1 x2 x3 x4 w K) : Fc Try.prog 111 #[(.int .i64 i0), (.int .i64 j1), x2, x3, x4] w (.one (.int .i64)) K :=
  fn_ok follows (sound_none _) Try.func111 name_impl_product_1 body_impl_product_1 Try.ntmps111 [(.int .i64 i0), (.int .i64 j1), x2, x3, x4] (Eq.mpr (eq_impl_product_1 i0 j1 x2 x3 x4 w K) h)

-- uses S7Prod
theorem c_impl_product_1 {pm px py vx vy : Value} {x y : Col} {i j : Int} {w : World} {K : Int → World → Prop} (hx : x.Is) (hy : y.Is) (ox : x.Ok) (oy : y.Ok) (h : ProdIs x y) (cm : Cell w pm (.int .i64 y.n)) (cx : Cell w px vx) (cy : Cell w py vy) (ax : ColAt w vx x) (ay : ColAt w vy y)
    (i0 : 0 ≤ i) (i1 : i < j) (i2 : j < x.n * y.n) (hK : ∀ w', Below w.heap.size w w' → K (prodG x y i j) w') : Fc Try.prog F_impl_product_1 #[.int .i64 i, .int .i64 j, pm, px, py] w (.one (.int .i64)) K := by
  have hp := prod_at (n := x.n) (m := y.n) hy.1 i0 i1 i2
  have m1 := hy.1; have hn := h.1; have xn := hx.2.1; have yn := hy.2.1
  have bd := prod_bd hx hy ox oy h i j i0 i1 i2
  refine walk_impl_product_1 _ _ _ _ _ ?_
  intro w1 hd
  have hb := hd.below w.heap.size
  have ei : Int.tdiv i y.n = i / y.n := Int.tdiv_eq_ediv_of_nonneg i0
  have ej : Int.tdiv j y.n = j / y.n := Int.tdiv_eq_ediv_of_nonneg (by omega)
  have mi : Int.tmod i y.n = i % y.n := Int.tmod_eq_emod_of_nonneg i0
  have mj : Int.tmod j y.n = j % y.n := Int.tmod_eq_emod_of_nonneg (by omega)
  have di := hp.1; have dj := hp.2.1; have ri := hp.2.2.1; have rj := hp.2.2.2.1
  unfold prodG at hK bd
  refine ld (k := .int .i64) yI (cm.keep hb) ⟨by omega, ld (k := .int .i64) yI (cm.keep hb) ⟨by omega, ?_⟩⟩
  rw [ei, ej, wrap_small (n := i / y.n) (by omega) (by omega), wrap_small (n := j / y.n) (by omega) (by omega)]
  refine ⟨fun hne w2 hd2 => ?_, fun he w2 hd2 => ?_⟩
  · have hne := ne_t hne
    have hb2 := hb.trans (hd2.below w.heap.size)
    rw [if_pos hne] at hK
    refine ld (k := .any) y1PC (cx.keep hb2) (ld (k := .int .i64) yI (cm.keep hb2) ⟨by omega, ld (k := .int .i64) yI (cm.keep hb2) ⟨by omega, ?_⟩⟩)
    rw [ei, ej, wrap_small (n := i / y.n) (by omega) (by omega), wrap_small (n := j / y.n) (by omega) (by omega)]
    refine c_impl_Colouring_at ox (ax.keep hb2) di.1 (by omega) dj.1 (by omega) hne fun w3 hb3 => ⟨hb3, hK w3 (hb2.trans (hb3.mono hb2.size))⟩
  · have he := ne_f he
    have hb2 := hb.trans (hd2.below w.heap.size)
    rw [if_neg (by omega)] at hK bd
    have ax2 := ax.keep hb2
    refine ld (k := .any) y1PC (cx.keep hb2) ⟨ax2.nonnil, col_k ax2 (ld (k := .any) y1PC (cy.keep hb2) (ld (k := .int .i64) yI (cm.keep hb2) ⟨by omega, ld (k := .int .i64) yI (cm.keep hb2) ⟨by omega, ?_⟩⟩))⟩
    rw [mi, mj]
    refine c_impl_Colouring_at oy (ay.keep hb2) ri.1 (by omega) rj.1 (by omega) (hp.2.2.2.2 he) fun w3 hb3 => ⟨hb3, ?_⟩
    rw [wrap_small (by omega) (by omega)]
    exact hK w3 (hb2.trans (hb3.mono hb2.size))

end Go.Proofs.Ytdkodhonaoecnaa
