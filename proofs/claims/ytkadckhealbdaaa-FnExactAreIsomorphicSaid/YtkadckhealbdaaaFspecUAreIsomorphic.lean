/- The reading of spec_AreIsomorphic, and its contract. No condition. -/
import Derived.Test.YtkadckhealbdaaaTy
import Derived.Test.YtkadckhealbdaaaS9IsoS
import Derived.Test.YtkadckhealbdaaaFspecUl01Is
import Derived.Test.YtkadckhealbdaaaFspecUl06Between
namespace Go.Proofs.Ytkadckhealbdaaa
open Go Go.RowKit Eng Mem
set_option linter.unusedVariables false
set_option maxRecDepth 100000
def V_spec_AreIsomorphic (x0 : Value) (y1 : Value) (w : World) (K : (Bool × Int) → World → Prop) : Prop :=
  (Pr Try.prog (Instr.box 25 x0) w (.one .any) fun (x2_2 : Value) w_1 => (Pr Try.prog (Instr.box 25 y1) w_1 (.one .any) fun (y3_4 : Value) w_3 => (QSub Try.prog (Instr.loadAt 25 x2_2) w_3 .any fun (x6_5 : Value) => (Fc Try.prog 65 #[x6_5] w_3 (.one .bool) fun (x7_7 : Bool) w_6 => (((!x7_7) = true → K (false, (1 : Int)) w_6) ∧ ((!x7_7) = false → (QSub Try.prog (Instr.loadAt 25 y3_4) w_6 .any fun (x10_8 : Value) => (Fc Try.prog 65 #[x10_8] w_6 (.one .bool) fun (x11_10 : Bool) w_9 => (((!x11_10) = true → K (false, (1 : Int)) w_9) ∧ ((!x11_10) = false → (QSub Try.prog (Instr.loadAt 25 x2_2) w_9 .any fun (x14_11 : Value) => (QSub Try.prog (Instr.loadAt 25 y3_4) w_9 .any fun (x15_12 : Value) => (Fc Try.prog 66 #[x14_11, x15_12, (.int .i64 (1 : Int))] w_9 (.one .any) fun (x16_14 : Value) w_13 => (NilOk x16_14 ∧ (QAll Try.prog (Instr.fieldAt 73 x16_14 5) .any fun (x18_15 : Value) => (QSub Try.prog (Instr.loadAt 2 x18_15) w_13 (.int .i64) fun (x19_16 : Int) => K ((decide (x19_16 > (0 : Int))), (0 : Int)) w_13))))))))))))))))

theorem eq_spec_AreIsomorphic (x0 : Value) (y1 : Value) (w : World) (K : (Bool × Int) → World → Prop) :
    W Try.prog ty (fun _ _ _ _ => False) (bodyOf Try.f26) (fnPost Try.prog Try.f26.results.toList (.two .bool (.int .i64)) K) (frame0 [x0, y1] 21) w = V_spec_AreIsomorphic x0 y1 w K := by
  kernel_rfl

theorem body_spec_AreIsomorphic : Try.f26.body = some (bodyOf Try.f26) := by kernel_rfl
theorem name_spec_AreIsomorphic : (Try.f26.name == "runtime.NumGoroutine") = false := by kernel_rfl

theorem walk_spec_AreIsomorphic (x0 : Value) (y1 : Value) {w : World} {K : (Bool × Int) → World → Prop} (h : V_spec_AreIsomorphic x0 y1 w K) : Fc Try.prog 26 #[x0, y1] w (.two .bool (.int .i64)) K :=
  fn_ok follows (sound_none _) Try.func26 name_spec_AreIsomorphic body_spec_AreIsomorphic Try.ntmps26 [x0, y1] (Eq.mpr (eq_spec_AreIsomorphic x0 y1 w K) h)

-- uses S9IsoS
theorem c_spec_AreIsomorphic {x y : Col} {w : World} {K : Bool × Int → World → Prop} (hx : x.Ok) (hy : y.Ok)
    (hK : ∀ w', Below w.heap.size w w' → K ((areIso x y).1, (areIso x y).2) w') : Fc Try.prog F_spec_AreIsomorphic #[x.val, y.val] w (.two .bool (.int .i64)) K := by
  unfold areIso at hK
  refine walk_spec_AreIsomorphic _ _ (col_box fun b1 w1 m1 ax => col_box fun b2 w2 m2 ay => ?_)
  have q2 := m1.below.trans (m2.below.mono m1.below.size)
  have ax := ax.keep m2.below
  refine col_all hx ax (c_spec_l01Is hx fun w3 q3 => ⟨fun h => ?_, fun h => col_all hy (ay.keep q3) (c_spec_l01Is hy fun w4 q4 => ⟨fun h2 => ?_, fun h2 => ?_⟩)⟩)
  · rw [if_neg (fun hh => notd_t h hh.1)] at hK
    exact hK w3 (q2.trans (q3.mono q2.size))
  · rw [if_neg (fun hh => notd_t h2 hh.2)] at hK
    exact hK w4 ((q2.trans (q3.mono q2.size)).trans (q4.mono (by have := q2.size; have := q3.size; omega)))
  have Ix := notd_f h; have Iy := notd_f h2
  rw [if_pos ⟨Ix, Iy⟩] at hK
  have q4' := (q2.trans (q3.mono q2.size)).trans (q4.mono (by have := q2.size; have := q3.size; omega))
  have hs := q4'.size
  have nn : ∀ b, NilOk (ptr b 0) := fun b => .inl ⟨_, rfl⟩
  refine col_all hx ((ax.keep q3).keep q4) (col_all hy ((ay.keep q3).keep q4) (c_spec_l06Between hx hy Ix Iy (fun hnone w5 b one two hb q5 hsr => ?_) (fun l hsome w5 b one two u c hb q5 hc ho hsr => ?_)))
  · rw [hnone] at hK
    exact ⟨nn b, fldp sr5 (ld (k := .int .i64) yI (hsr.tail hx hy 3 rfl) (hK w5 (q4'.trans (q5.mono hs))))⟩
  · rw [hsome] at hK
    exact ⟨nn b, fldp sr5 (ld (k := .int .i64) yI (hsr.tail hx hy 3 rfl) (hK w5 (q4'.trans (q5.mono hs))))⟩

end Go.Proofs.Ytkadckhealbdaaa
