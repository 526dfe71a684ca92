/- The reading of laws_eqColouring, and its contract. No condition. -/
import Derived.Test.YtdkodhonaoecnaaTy
import Derived.Test.YtdkodhonaoecnaaS1Col
import Derived.Test.YtdkodhonaoecnaaFlawsUeqByteA136
namespace Go.Proofs.Ytdkodhonaoecnaa
open Go Go.RowKit Eng Mem
set_option linter.unusedVariables false
set_option maxRecDepth 100000
def V_laws_eqColouring (a0 : Value) (b1 : Value) (w : World) (K : Bool → World → Prop) : Prop :=
  (Pr Try.prog (Instr.box 28 a0) w (.one .any) fun (a2_2 : Value) w_1 => (Pr Try.prog (Instr.box 28 b1) w_1 (.one .any) fun (b3_4 : Value) w_3 => (QAll Try.prog (Instr.fieldAt 28 a2_2 0) .any fun (x5_5 : Value) => (QSub Try.prog (Instr.loadAt 2 x5_5) w_3 (.int .i64) fun (x6_6 : Int) => (QAll Try.prog (Instr.fieldAt 28 b3_4 0) .any fun (x7_7 : Value) => (QSub Try.prog (Instr.loadAt 2 x7_7) w_3 (.int .i64) fun (x8_8 : Int) => (((x6_6 != x8_8) = true → K false w_3) ∧ ((x6_6 != x8_8) = false → (QAll Try.prog (Instr.fieldAt 28 a2_2 1) .any fun (x10_9 : Value) => (QSub Try.prog (Instr.loadAt 2 x10_9) w_3 (.int .i64) fun (x11_10 : Int) => (QAll Try.prog (Instr.fieldAt 28 b3_4 1) .any fun (x12_11 : Value) => (QSub Try.prog (Instr.loadAt 2 x12_11) w_3 (.int .i64) fun (x13_12 : Int) => (((x11_10 != x13_12) = true → K false w_3) ∧ ((x11_10 != x13_12) = false → (QAll Try.prog (Instr.fieldAt 28 a2_2 2) .any fun (x15_13 : Value) => (QSub Try.prog (Instr.loadAt 26 x15_13) w_3 .any fun (x16_14 : Value) => (QAll Try.prog (Instr.fieldAt 28 b3_4 2) .any fun (x17_15 : Value) => (QSub Try.prog (Instr.loadAt 26 x17_15) w_3 .any fun (x18_16 : Value) => (Fc Try.prog 57 #[x16_14, x18_16] w_3 (.one .bool) fun (x19_18 : Bool) w_17 => (((!x19_18) = true → K false w_17) ∧ ((!x19_18) = false → K true w_17)))))))))))))))))))))

theorem eq_laws_eqColouring (a0 : Value) (b1 : Value) (w : World) (K : Bool → World → Prop) :
    W Try.prog ty (fun _ _ _ _ => False) (bodyOf Try.f20) (fnPost Try.prog Try.f20.results.toList (.one .bool) K) (frame0 [a0, b1] 21) w = V_laws_eqColouring a0 b1 w K := by
  kernel_rfl

theorem body_laws_eqColouring : Try.f20.body = some (bodyOf Try.f20) := by kernel_rfl
theorem name_laws_eqColouring : (Try.f20.name == "runtime.NumGoroutine") = false := by kernel_rfl

theorem walk_laws_eqColouring (a0 : Value) (b1 : Value) {w : World} {K : Bool → World → Prop} (h : V_laws_eqColouring a0 b1 w K) : Fc Try.prog 20 #[a0, b1] w (.one .bool) K :=
  fn_ok follows (sound_none _) Try.func20 name_laws_eqColouring body_laws_eqColouring Try.ntmps20 [a0, b1] (Eq.mpr (eq_laws_eqColouring a0 b1 w K) h)

-- uses S1Col
theorem c_laws_eqColouring {c d : Col} {w : World} {K : Bool → World → Prop} (h : c.Ok) (k : d.Ok) (hK : ∀ w', Below w.heap.size w w' → K (decide (c = d)) w') :
    Fc Try.prog F_laws_eqColouring #[c.val, d.val] w (.one .bool) K := by
  refine walk_laws_eqColouring _ _ ?_
  refine col_box fun b1 w1 n1 x1 => col_box fun b2 w2 n2 x2 => ?_
  have hb := n1.below.trans (n2.below.mono n1.below.size)
  replace x1 := x1.keep n2.below
  have no : ∀ w', Below w.heap.size w w' → c ≠ d → K false w' := fun w' hb he => by have := hK w' hb; rwa [decide_eq_false he] at this
  refine fld f0 x1.nonnil x1.isPtr (ld (k := .int .i64) yI (x1.get 0 rfl) (fld f0 x2.nonnil x2.isPtr (ld (k := .int .i64) yI (x2.get 0 rfl) ⟨fun hn => no _ hb fun he => ne_t hn (by rw [he]), fun e0 => ?_⟩)))
  refine fld f1 x1.nonnil x1.isPtr (ld (k := .int .i64) yI (x1.get 1 rfl) (fld f1 x2.nonnil x2.isPtr (ld (k := .int .i64) yI (x2.get 1 rfl) ⟨fun hn => no _ hb fun he => ne_t hn (by rw [he]), fun e1 => ?_⟩)))
  refine fld f2 x1.nonnil x1.isPtr (ldA yA h.es_len (Col.es_row x1) (fld f2 x2.nonnil x2.isPtr (ldA yA k.es_len (Col.es_row x2) ?_)))
  refine c_laws_eqByteA136 h.len k.len fun w3 hb3 => ?_
  have hbb := hb.trans (hb3.mono hb.size)
  refine ⟨fun hn => no _ hbb fun he => notd_t hn (by rw [he]), fun e2 => ?_⟩
  have e2 := notd_f e2
  have := hK w3 hbb
  have e : c = d := by cases c; cases d; simp only [Col.mk.injEq]; exact ⟨ne_f e0, ne_f e1, e2⟩
  rwa [decide_eq_true e] at this

end Go.Proofs.Ytdkodhonaoecnaa
