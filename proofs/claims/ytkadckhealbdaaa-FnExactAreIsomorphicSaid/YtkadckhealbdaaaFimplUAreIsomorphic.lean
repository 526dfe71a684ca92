/- The reading of impl_AreIsomorphic, and its contract. No condition. -/
import Derived.Test.YtkadckhealbdaaaTy
import Derived.Test.YtkadckhealbdaaaS9IsoM
import Derived.Test.YtkadckhealbdaaaFimplUColouringUisColouring
import Derived.Test.YtkadckhealbdaaaFimplUColouringUrenumbering
namespace Go.Proofs.Ytkadckhealbdaaa
open Go Go.RowKit Eng Mem
set_option linter.unusedVariables false
set_option maxRecDepth 100000
def V_impl_AreIsomorphic (x0 : Value) (y1 : Value) (w : World) (K : (Bool × Int) → World → Prop) : Prop :=
  (Pr Try.prog (Instr.box 25 x0) w (.one .any) fun (x2_2 : Value) w_1 => (Pr Try.prog (Instr.box 25 y1) w_1 (.one .any) fun (y3_4 : Value) w_3 => (Fc Try.prog 67 #[x2_2] w_3 (.one .bool) fun (x8_6 : Bool) w_5 => (((!x8_6) = true → K (false, (1 : Int)) w_5) ∧ ((!x8_6) = false → (Fc Try.prog 67 #[y3_4] w_5 (.one .bool) fun (x11_8 : Bool) w_7 => (((!x11_8) = true → K (false, (1 : Int)) w_7) ∧ ((!x11_8) = false → (Fc Try.prog 68 #[x2_2, y3_4] w_7 (.two .any .bool) fun (x15_10 : Value × Bool) w_9 => K (x15_10.2, (0 : Int)) w_9)))))))))

theorem eq_impl_AreIsomorphic (x0 : Value) (y1 : Value) (w : World) (K : (Bool × Int) → World → Prop) :
    W Try.prog ty (fun _ _ _ _ => False) (bodyOf Try.f27) (fnPost Try.prog Try.f27.results.toList (.two .bool (.int .i64)) K) (frame0 [x0, y1] 19) w = V_impl_AreIsomorphic x0 y1 w K := by
  kernel_rfl

theorem body_impl_AreIsomorphic : Try.f27.body = some (bodyOf Try.f27) := by kernel_rfl
theorem name_impl_AreIsomorphic : (Try.f27.name == "runtime.NumGoroutine") = false := by kernel_rfl

theorem walk_impl_AreIsomorphic (x0 : Value) (y1 : Value) {w : World} {K : (Bool × Int) → World → Prop} (h : V_impl_AreIsomorphic x0 y1 w K) : Fc Try.prog 27 #[x0, y1] w (.two .bool (.int .i64)) K :=
  fn_ok follows (sound_none _) Try.func27 name_impl_AreIsomorphic body_impl_AreIsomorphic Try.ntmps27 [x0, y1] (Eq.mpr (eq_impl_AreIsomorphic x0 y1 w K) h)

-- uses S9IsoM
theorem c_impl_AreIsomorphic {x y : Col} {w : World} {K : Bool × Int → World → Prop} (hx : x.Ok) (hy : y.Ok)
    (hK : ∀ w', Below w.heap.size w w' → K ((areIso x y).1, (areIso x y).2) w') : Fc Try.prog F_impl_AreIsomorphic #[x.val, y.val] w (.two .bool (.int .i64)) K := by
  unfold areIso at hK
  refine walk_impl_AreIsomorphic _ _ (col_box fun b1 w1 m1 ax => col_box fun b2 w2 m2 ay => ?_)
  have q2 := m1.below.trans (m2.below.mono m1.below.size)
  have ax := ax.keep m2.below
  refine c_impl_Colouring_isColouring hx ax fun w3 q3 => ⟨fun h => ?_, fun h => c_impl_Colouring_isColouring hy (ay.keep q3) fun w4 q4 => ⟨fun h2 => ?_, fun h2 => ?_⟩⟩
  · rw [if_neg (fun hh => notd_t h hh.1)] at hK
    exact hK w3 (q2.trans (q3.mono q2.size))
  · rw [if_neg (fun hh => notd_t h2 hh.2)] at hK
    exact hK w4 ((q2.trans (q3.mono q2.size)).trans (q4.mono (by have := q2.size; have := q3.size; omega)))
  have Ix := notd_f h; have Iy := notd_f h2
  rw [if_pos ⟨Ix, Iy⟩] at hK
  have q4' := (q2.trans (q3.mono q2.size)).trans (q4.mono (by have := q2.size; have := q3.size; omega))
  have hs := q4'.size
  exact c_impl_Colouring_renumbering hx hy Ix Iy ((ax.keep q3).keep q4) ((ay.keep q3).keep q4) fun v w5 q5 hv => hK w5 (q4'.trans (q5.mono hs))

end Go.Proofs.Ytkadckhealbdaaa
