/- The reading of impl_ColourOf, and its contract. No condition. -/
import Derived.Test.YtdnofmicjgppnaaTy
import Derived.Test.YtdnofmicjgppnaaS7Refl
import Derived.Test.YtdnofmicjgppnaaFimplUColourOfU1
import Derived.Test.YtdnofmicjgppnaaFimplUColouringUat
import Derived.Test.YtdnofmicjgppnaaFimplUColouringUcode
namespace Go.Proofs.Ytdnofmicjgppnaa
open Go Go.RowKit Eng Mem
set_option linter.unusedVariables false
set_option maxRecDepth 100000
def V_impl_ColourOf (x0 : Value) (i1 : Int) (j2 : Int) (w : World) (K : (Int × Int) → World → Prop) : Prop :=
  (Pr Try.prog (Instr.box 31 x0) w (.one .any) fun (x3_2 : Value) w_1 => (Pr Try.prog (Instr.box 2 (.int .i64 i1)) w_1 (.one .any) fun (i4_4 : Value) w_3 => (Pr Try.prog (Instr.box 2 (.int .i64 j2)) w_3 (.one .any) fun (j5_6 : Value) w_5 => (Fc Try.prog 59 #[x3_2, (.func (.func 64) #[] #[x3_2, i4_4, j5_6])] w_5 (.one (.int .i64)) fun (x10_8 : Int) w_7 => (((x10_8 != (0 : Int)) = true → K ((0 : Int), x10_8) w_7) ∧ ((x10_8 != (0 : Int)) = false → (QSub Try.prog (Instr.loadAt 2 i4_4) w_7 (.int .i64) fun (x14_9 : Int) => (QSub Try.prog (Instr.loadAt 2 j5_6) w_7 (.int .i64) fun (x15_10 : Int) => (Fc Try.prog 66 #[x3_2, (.int .i64 x14_9), (.int .i64 x15_10)] w_7 (.one (.int .i64)) fun (x16_12 : Int) w_11 => K (x16_12, (0 : Int)) w_11)))))))))

theorem eq_impl_ColourOf (x0 : Value) (i1 : Int) (j2 : Int) (w : World) (K : (Int × Int) → World → Prop) :
    W Try.prog ty (fun _ _ _ _ => False) (bodyOf Try.f31) (fnPost Try.prog Try.f31.results.toList (.two (.int .i64) (.int .i64)) K) (frame0 [x0, (.int .i64 i1), (.int .i64 j2)] 17) w = V_impl_ColourOf x0 i1 j2 w K := by
  kernel_rfl

theorem body_impl_ColourOf : Try.f31.body = some (bodyOf Try.f31) := by kernel_rfl
theorem name_impl_ColourOf : (Try.f31.name == "runtime.NumGoroutine") = false := by kernel_rfl

theorem walk_impl_ColourOf (x0 : Value) (i1 : Int) (j2 : Int) {w : World} {K : (Int × Int) → World → Prop} (h : V_impl_ColourOf x0 i1 j2 w K) : Fc Try.prog 31 #[x0, (.int .i64 i1), (.int .i64 j2)] w (.two (.int .i64) (.int .i64)) K :=
  fn_ok follows (sound_none _) Try.func31 name_impl_ColourOf body_impl_ColourOf Try.ntmps31 [x0, (.int .i64 i1), (.int .i64 j2)] (Eq.mpr (eq_impl_ColourOf x0 i1 j2 w K) h)

-- uses S7Refl
theorem c_impl_ColourOf {c : Col} {i j : Int} {w : World} {K : Int × Int → World → Prop} (hc : c.Ok) (_ : I64 i) (_ : I64 j)
    (hK : ∀ w', Below w.heap.size w w' → K ((colourOf c i j).1, (colourOf c i j).2) w') : Fc Try.prog F_impl_ColourOf #[c.val, .int .i64 i, .int .i64 j] w (.two (.int .i64) (.int .i64)) K := by
  refine walk_impl_ColourOf _ _ _ (col_box fun b1 w1 n1 hx => box [.int .i64 i] rfl fun b2 w2 n2 => box [.int .i64 j] rfl fun b3 w3 n3 => ?_)
  have hb2 := n1.below.trans (n2.below.mono n1.below.size)
  have hb := hb2.trans (n3.below.mono hb2.size)
  have hx := (hx.keep n2.below).keep n3.below
  have ci : Cell w3 (ptr b2 0) (.int .i64 i) := (row_all (cs := [_]) n2.at_).keep n3.below
  have cj : Cell w3 (ptr b3 0) (.int .i64 j) := row_all (cs := [_]) n3.at_
  refine c_impl_Colouring_code (decide ((0 ≤ i ∧ i ≤ c.n - 1) ∧ (0 ≤ j ∧ j ≤ c.n - 1) ∧ i ≠ j)) hc hx (fun hI w' K' hb' hk => cv rfl (c_impl_ColourOf_1 (hx.keep hb') (ci.keep hb') (cj.keep hb') (by have := hI.1; omega) hI.2.1 (hk _ (Below.refl _ _)))) fun w4 hb4 => ?_
  have hbb := hb.trans (hb4.mono hb.size)
  unfold colourOf at hK
  by_cases hI : c.Is
  · rw [if_pos hI]
    by_cases hr : (0 ≤ i ∧ i ≤ c.n - 1) ∧ (0 ≤ j ∧ j ≤ c.n - 1) ∧ i ≠ j
    · rw [if_pos (by simpa using hr)]
      refine ⟨fun h => absurd rfl (ne_t h), fun _ => ld (k := .int .i64) yI (ci.keep hb4) (ld (k := .int .i64) yI (cj.keep hb4) ?_)⟩
      have hn := hI.2.1
      refine c_impl_Colouring_at hc (hx.keep hb4) hr.1.1 (by omega) hr.2.1.1 (by omega) hr.2.2 fun w5 hb5 => ?_
      have := hK w5 (hbb.trans (hb5.mono hbb.size))
      rwa [if_pos hI, if_pos hr] at this
    · rw [if_neg (by simpa using hr)]
      have := hK w4 hbb
      rw [if_pos hI, if_neg hr] at this
      exact ⟨fun _ => this, fun h => absurd (ne_f h) (by omega)⟩
  · rw [if_neg hI]
    have := hK w4 hbb
    rw [if_neg hI] at this
    exact ⟨fun _ => this, fun h => absurd (ne_f h) (by omega)⟩

end Go.Proofs.Ytdnofmicjgppnaa
