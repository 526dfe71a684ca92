/- The reading of spec_ColourOf, and its contract. No condition. -/
import Derived.Test.YtdnofmicjgppnaaTy
import Derived.Test.YtdnofmicjgppnaaS7Refl
import Derived.Test.YtdnofmicjgppnaaFspecUl01At
import Derived.Test.YtdnofmicjgppnaaFspecUl01Given
namespace Go.Proofs.Ytdnofmicjgppnaa
open Go Go.RowKit Eng Mem
set_option linter.unusedVariables false
set_option maxRecDepth 100000
def V_spec_ColourOf (x0 : Value) (i1 : Int) (j2 : Int) (w : World) (K : (Int × Int) → World → Prop) : Prop :=
  (Pr Try.prog (Instr.box 31 x0) w (.one .any) fun (x3_2 : Value) w_1 => (QSub Try.prog (Instr.loadAt 31 x3_2) w_1 .any fun (x9_3 : Value) => (Pr Try.prog (Instr.buildSlice 22 2 #[(0, (.int .i64 i1)), (1, (.int .i64 j2))]) w_1 (.one .any) fun (x12_5 : Value) w_4 => (Fc Try.prog 62 #[x9_3, (.int .i64 (0 : Int)), x12_5] w_4 (.one (.int .i64)) fun (x13_7 : Int) w_6 => (((x13_7 == (0 : Int)) = true → (((i1 == j2) = true → ((((2 : Int) != (0 : Int)) = true → K ((0 : Int), (2 : Int)) w_6) ∧ (((2 : Int) != (0 : Int)) = false → (QSub Try.prog (Instr.loadAt 31 x3_2) w_6 .any fun (x24_8 : Value) => (Fc Try.prog 63 #[x24_8, (.int .i64 i1), (.int .i64 j2)] w_6 (.one (.int .i64)) fun (x27_10 : Int) w_9 => K (x27_10, (0 : Int)) w_9))))) ∧ ((i1 == j2) = false → (((x13_7 != (0 : Int)) = true → K ((0 : Int), x13_7) w_6) ∧ ((x13_7 != (0 : Int)) = false → (QSub Try.prog (Instr.loadAt 31 x3_2) w_6 .any fun (x24_11 : Value) => (Fc Try.prog 63 #[x24_11, (.int .i64 i1), (.int .i64 j2)] w_6 (.one (.int .i64)) fun (x27_13 : Int) w_12 => K (x27_13, (0 : Int)) w_12))))))) ∧ ((x13_7 == (0 : Int)) = false → (((x13_7 != (0 : Int)) = true → K ((0 : Int), x13_7) w_6) ∧ ((x13_7 != (0 : Int)) = false → (QSub Try.prog (Instr.loadAt 31 x3_2) w_6 .any fun (x24_14 : Value) => (Fc Try.prog 63 #[x24_14, (.int .i64 i1), (.int .i64 j2)] w_6 (.one (.int .i64)) fun (x27_16 : Int) w_15 => K (x27_16, (0 : Int)) w_15))))))))))

theorem eq_spec_ColourOf (x0 : Value) (i1 : Int) (j2 : Int) (w : World) (K : (Int × Int) → World → Prop) :
    W Try.prog ty (fun _ _ _ _ => False) (bodyOf Try.f30) (fnPost Try.prog Try.f30.results.toList (.two (.int .i64) (.int .i64)) K) (frame0 [x0, (.int .i64 i1), (.int .i64 j2)] 28) w = V_spec_ColourOf x0 i1 j2 w K := by
  kernel_rfl

theorem body_spec_ColourOf : Try.f30.body = some (bodyOf Try.f30) := by kernel_rfl
theorem name_spec_ColourOf : (Try.f30.name == "runtime.NumGoroutine") = false := by kernel_rfl

theorem walk_spec_ColourOf (x0 : Value) (i1 : Int) (j2 : Int) {w : World} {K : (Int × Int) → World → Prop} (h : V_spec_ColourOf x0 i1 j2 w K) : Fc Try.prog 30 #[x0, (.int .i64 i1), (.int .i64 j2)] w (.two (.int .i64) (.int .i64)) K :=
  fn_ok follows (sound_none _) Try.func30 name_spec_ColourOf body_spec_ColourOf Try.ntmps30 [x0, (.int .i64 i1), (.int .i64 j2)] (Eq.mpr (eq_spec_ColourOf x0 i1 j2 w K) h)

-- uses S7Refl
theorem c_spec_ColourOf {c : Col} {i j : Int} {w : World} {K : Int × Int → World → Prop} (hc : c.Ok) (_ : I64 i) (_ : I64 j)
    (hK : ∀ w', Below w.heap.size w w' → K ((colourOf c i j).1, (colourOf c i j).2) w') : Fc Try.prog F_spec_ColourOf #[c.val, .int .i64 i, .int .i64 j] w (.two (.int .i64) (.int .i64)) K := by
  refine walk_spec_ColourOf _ _ _ (col_box fun b1 w1 n1 hx => col_all hc hx (twoI fun v w2 hb2 hv => c_spec_l01Given hc hv fun w3 hb3 => ?_))
  have hb := n1.below.trans (hb2.mono n1.below.size)
  have hbb := hb.trans (hb3.mono hb.size)
  have hx := (hx.keep hb2).keep hb3
  have e : AllIn [i, j] 0 (c.n - 1) ↔ (0 ≤ i ∧ i ≤ c.n - 1) ∧ (0 ≤ j ∧ j ≤ c.n - 1) := by simp [AllIn]
  unfold colourOf at hK
  have k3 := hK w3 hbb
  by_cases hI : c.Is
  · rw [if_pos hI]
    rw [if_pos hI] at k3
    by_cases ha : AllIn [i, j] 0 (c.n - 1)
    · rw [if_pos ⟨⟨by omega, by have := hI.2.2.1; omega⟩, ha⟩]
      have ha := e.1 ha
      refine ⟨fun _ => ⟨fun he => ⟨fun _ => ?_, fun h => absurd (ne_f h) (by omega)⟩, fun he => ⟨fun h => absurd rfl (ne_t h), fun _ => col_all hc hx ?_⟩⟩, fun h => absurd rfl (eq_f h)⟩
      · rwa [if_neg (fun hh => hh.2.2 (eq_t he))] at k3
      · have hn := hI.2.1
        refine c_spec_l01At hc ha.1.1 (by omega) ha.2.1 (by omega) (eq_f he) fun w4 hb4 => ?_
        have k4 := hK w4 (hbb.trans (hb4.mono hbb.size))
        rwa [if_pos hI, if_pos ⟨ha.1, ha.2, eq_f he⟩] at k4
    · rw [if_neg (fun hh => ha hh.2)]
      rw [if_neg (fun hh => ha (e.2 ⟨hh.1, hh.2.1⟩))] at k3
      exact ⟨fun h => absurd (eq_t h) (by omega), fun _ => ⟨fun _ => k3, fun h => absurd (ne_f h) (by omega)⟩⟩
  · rw [if_neg hI]
    rw [if_neg hI] at k3
    exact ⟨fun h => absurd (eq_t h) (by omega), fun _ => ⟨fun _ => k3, fun h => absurd (ne_f h) (by omega)⟩⟩

end Go.Proofs.Ytdnofmicjgppnaa
