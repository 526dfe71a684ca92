/- The reading of spec_l01Given, and its contract. No condition. -/
import Derived.Test.YtkadckhealbdaaaTy
import Derived.Test.YtkadckhealbdaaaS3Part
import Derived.Test.YtkadckhealbdaaaFspecUl01All
import Derived.Test.YtkadckhealbdaaaFspecUl01In
import Derived.Test.YtkadckhealbdaaaFspecUl01Is
namespace Go.Proofs.Ytkadckhealbdaaa
open Go Go.RowKit Eng Mem
set_option linter.unusedVariables false
set_option maxRecDepth 100000
def V_spec_l01Given (x0 : Value) (c1 : Int) (points2 : Value) (w : World) (K : Int → World → Prop) : Prop :=
  (Pr Try.prog (Instr.box 25 x0) w (.one .any) fun (x3_2 : Value) w_1 => (QSub Try.prog (Instr.loadAt 25 x3_2) w_1 .any fun (x8_3 : Value) => (Fc Try.prog 65 #[x8_3] w_1 (.one .bool) fun (x9_5 : Bool) w_4 => (((!x9_5) = true → K (1 : Int) w_4) ∧ ((!x9_5) = false → (QAll Try.prog (Instr.fieldAt 25 x3_2 1) .any fun (x13_6 : Value) => (QSub Try.prog (Instr.loadAt 2 x13_6) w_4 (.int .i64) fun (x14_7 : Int) => (Fc Try.prog 43 #[(.int .i64 c1), (.int .i64 (0 : Int)), (.int .i64 (IntKind.i64.wrap (x14_7 - (1 : Int))))] w_4 (.one .bool) fun (x16_9 : Bool) w_8 => (((!x16_9) = true → K (2 : Int) w_8) ∧ ((!x16_9) = false → (QAll Try.prog (Instr.fieldAt 25 x3_2 0) .any fun (x20_10 : Value) => (QSub Try.prog (Instr.loadAt 2 x20_10) w_8 (.int .i64) fun (x21_11 : Int) => (Fc Try.prog 86 #[points2, (.int .i64 x21_11)] w_8 (.one .bool) fun (x22_13 : Bool) w_12 => (((!x22_13) = true → K (2 : Int) w_12) ∧ ((!x22_13) = false → K (0 : Int) w_12)))))))))))))))

theorem eq_spec_l01Given (x0 : Value) (c1 : Int) (points2 : Value) (w : World) (K : Int → World → Prop) :
    W Try.prog ty (fun _ _ _ _ => False) (bodyOf Try.f42) (fnPost Try.prog Try.f42.results.toList (.one (.int .i64)) K) (frame0 [x0, (.int .i64 c1), points2] 25) w = V_spec_l01Given x0 c1 points2 w K := by
  kernel_rfl

theorem body_spec_l01Given : Try.f42.body = some (bodyOf Try.f42) := by kernel_rfl
theorem name_spec_l01Given : (Try.f42.name == "runtime.NumGoroutine") = false := by kernel_rfl

theorem walk_spec_l01Given (x0 : Value) (c1 : Int) (points2 : Value) {w : World} {K : Int → World → Prop} (h : V_spec_l01Given x0 c1 points2 w K) : Fc Try.prog 42 #[x0, (.int .i64 c1), points2] w (.one (.int .i64)) K :=
  fn_ok follows (sound_none _) Try.func42 name_spec_l01Given body_spec_l01Given Try.ntmps42 [x0, (.int .i64 c1), points2] (Eq.mpr (eq_spec_l01Given x0 c1 points2 w K) h)

-- uses S3Part
theorem c_spec_l01Given {c : Col} {d : Int} {a : Value} {l : List Int} {w : World} {K : Int → World → Prop} (hc : c.Ok) (ha : SlI w a l)
    (hK : ∀ w', Below w.heap.size w w' → K (if c.Is then (if (0 ≤ d ∧ d ≤ c.k - 1) ∧ AllIn l 0 (c.n - 1) then 0 else 2) else 1) w') : Fc Try.prog F_spec_l01Given #[c.val, .int .i64 d, a] w (.one (.int .i64)) K := by
  refine walk_spec_l01Given _ _ _ (col_box fun b w1 n1 hx => col_all hc hx (c_spec_l01Is hc fun w2 hb2 => ?_))
  have hb := n1.below.trans (hb2.mono n1.below.size)
  have hx := hx.keep hb2
  have := hK w2 hb
  refine ⟨fun h => by rwa [if_neg (notd_t h)] at this, fun h => ?_⟩
  have h := notd_f h
  rw [if_pos h] at this
  refine col_k hx ?_
  rw [wrap_small (by have := h.2.2.1; omega) (by have := h.2.2.2.1; omega)]
  refine c_spec_l01In _ _ _ ⟨fun h1 => by rwa [if_neg (fun hh => notd_t h1 hh.1)] at this, fun h1 => col_n hx ?_⟩
  refine c_spec_l01All (ha.keep hb) (by have := h.1; omega) (by have := h.2.1; omega) ⟨fun h2 => by rwa [if_neg (fun hh => notd_t h2 hh.2)] at this, fun h2 => ?_⟩
  rwa [if_pos ⟨notd_f h1, notd_f h2⟩] at this

end Go.Proofs.Ytkadckhealbdaaa
