/- The reading of spec_l01Own, and its contract. No condition. -/
import Derived.Test.YtkadckhealbdaaaTy
import Derived.Test.YtkadckhealbdaaaS2Sl
namespace Go.Proofs.Ytkadckhealbdaaa
open Go Go.RowKit Eng Mem
set_option linter.unusedVariables false
set_option maxRecDepth 100000
def V_spec_l01Own (list0 : Value) (w : World) (K : Value → World → Prop) : Prop :=
  (Pr Try.prog (Instr.buildSlice 31 0 #[]) w (.one .any) fun (x3_2 : Value) w_1 => (Pr Try.prog (Builtin.append_ #[31, 31] 31 #[x3_2, list0]) w_1 (.one .any) fun (x5_4 : Value) w_3 => K (x5_4 : Value) w_3))

theorem eq_spec_l01Own (list0 : Value) (w : World) (K : Value → World → Prop) :
    W Try.prog ty (fun _ _ _ _ => False) (bodyOf Try.f90) (fnPost Try.prog Try.f90.results.toList (.one .any) K) (frame0 [list0] 6) w = V_spec_l01Own list0 w K := by
  kernel_rfl

theorem body_spec_l01Own : Try.f90.body = some (bodyOf Try.f90) := by kernel_rfl
theorem name_spec_l01Own : (Try.f90.name == "runtime.NumGoroutine") = false := by kernel_rfl

theorem walk_spec_l01Own (list0 : Value) {w : World} {K : Value → World → Prop} (h : V_spec_l01Own list0 w K) : Fc Try.prog 90 #[list0] w (.one .any) K :=
  fn_ok follows (sound_none _) Try.func90 name_spec_l01Own body_spec_l01Own Try.ntmps90 [list0] (Eq.mpr (eq_spec_l01Own list0 w K) h)

-- uses S2Sl
theorem c_spec_l01Own {a : Value} {l : List Int} {w : World} {K : Value → World → Prop} (h : SlI w a l) (hl : l.length ≤ 1099511627776) (hK : ∀ w' v b, w.heap.size ≤ b → Below w.heap.size w w' → OwnI w' b v l → K v w') :
    Fc Try.prog F_spec_l01Own #[a] w (.one .any) K := by
  refine walk_spec_l01Own _ (nilI fun b v w1 hb hbel ho => appsI ho (h.keep hbel) (by simpa using hl) fun v' w' b' o m hb' => ?_)
  have hs := hbel.size
  rw [List.nil_append] at o
  exact hK w' v' b' (by omega) (hbel.trans (m.below (by omega) (by simp; omega))) o

end Go.Proofs.Ytkadckhealbdaaa
