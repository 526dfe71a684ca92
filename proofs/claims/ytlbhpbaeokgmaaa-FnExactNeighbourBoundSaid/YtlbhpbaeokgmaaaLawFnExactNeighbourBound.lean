/- The law FnExactNeighbourBound returns true for all arguments: the program's function is the reference's. No condition. -/
import Derived.Test.YtlbhpbaeokgmaaaRows
import Derived.Test.YtlbhpbaeokgmaaaKNeighbourBound4
set_option linter.all false
namespace Go.Proofs.Ytlbhpbaeokgmaaa.fnExactNeighbourBound
open Go Go.RowKit Eng Mem Go.ChangeShapes Go.WideShapes Go.ChangeAt
open Go.ChangeMaps (open_string shut_string)
set_option linter.unusedVariables false
set_option maxRecDepth 100000
theorem own : ownKnob Try.prog.godebug = none := by kernel_rfl
theorem laidOut : laidOutB Try.prog = true := by kernel_rfl
theorem readable0 : Try.prog.readableRec 24 = true := by kernel_rfl
theorem lifted (os : Os) (started : os.Started) (H : Type) (enc : TypeId × Value → H) :
    ReturnsInHanded {} Try.checked os 5 .any (Rows.fnExactNeighbourBoundSpec.pre6 enc Try.prog Try.f5 Rows.fnExactNeighbourBoundRow.domain false) (Rows.fnExactNeighbourBoundSpec.post enc Try.prog Try.f5 false true false false) := by
  refine returnsInHanded_of_change_sized (C := Try.checked) own started (by kernel_rfl) Try.func5
    (ChangeSpec.witness6 (enc := enc) (C := Try.checked) false ⟨#[], #[.slice none 0 0], []⟩ 8 (by kernel_rfl) (by kernel_rfl) (by kernel_rfl) (by kernel_rfl)) ?_
  intro W base args ds gs before hval0 hW hcnd hsz0 _
  have hsz : (DataW.weightsEach Try.prog (Try.f5.params.toList ++ Rows.fnExactNeighbourBoundSpec.plain.varTypes Try.prog) (ds ++ gs)).all (· ≤ reachBytes) = true := hsz0
  have hval : ∀ (j : Nat) t v, Try.f5.params[j]? = some t → args[j]? = some v → Value.okWide Try.prog W .any base t v := hval0
  have hW' := hW
  obtain ⟨p, q, hA0, hV, rfl, hfz, hnd⟩ := hW
  have hA : DataW.TrodAll enc Try.prog W 0 (fun _ => true) true Try.f5.params.toList args.toList ds p := hA0
  rw [Try.params5] at hA hval hsz
  obtain ⟨v0, vs0, d0, ds0, p0, q0, hargs, rfl, rfl, h0, r0⟩ := trodAll_cons hA
  obtain ⟨rfl, rfl, rfl⟩ := trodAll_nil r0
  obtain rfl : args = #[v0] := by cases args; simp_all
  obtain ⟨rfl, rfl⟩ := trodVars_none hV
  have k0 := h0
  have lt0 : ∀ x ∈ p0, x.block < W.heap.size := fun x hx => hW'.lt x (by simp [hx])
  obtain ⟨a0, w0⟩ := open_slI (hval 0 24 v0 rfl rfl) h0 (sized_sl hsz (j := 0) rfl rfl)
  clear hA0 hval0 hsz0 hsz
  refine (c_laws_FnExactNeighbourBound w0 (w := W) (K := fun b w' => b = true ∧ Below W.heap.size W w') (fun w' hb => ⟨rfl, hb⟩)).run.mono fun e W' ⟨x, he, hx, bel⟩ => ?_
  subst hx
  subst he
  exact ⟨_, rfl, _, _, _, [], _, [], hW', trodAll_mk1 (shut_bool Try.underlyingTb _), (trodAll_cons_mk (Below.trod laidOut readable0 (by decide +kernel) k0 bel lt0) trodAll_mk0), rfl, bel.frame _, fun h => by cases h⟩
theorem over : Rows.fnExactNeighbourBoundRow.holds Try.pinned (OpenSpec.ofChange Rows.fnExactNeighbourBoundSpec) :=
  OpenClaim.holds_of_wide 5 Try.f5 rfl rfl rfl rfl rfl rfl rfl ⟨rfl, rfl, rfl, rfl, rfl⟩ rfl rfl rfl rfl rfl (by kernel_rfl) Try.func5 (by kernel_rfl)
    (of_decide_eq_true (by kernel_rfl)) (by unfold Func.isWrapper; first | (rw [if_pos (by decide +kernel)]; kernel_rfl) | (rw [if_neg (by decide +kernel)]; exact ⟨rfl, rfl⟩))
    (fun os started H enc _ => lifted os started H enc)
theorem proved : Rows.FnExactNeighbourBoundSaid := over
end Go.Proofs.Ytlbhpbaeokgmaaa.fnExactNeighbourBound
namespace Go.Proofs.Ytlbhpbaeokgmaaa
/-- The row, under a short name, for the claim. -/
theorem fnExactNeighbourBound_holds : Rows.FnExactNeighbourBoundSaid := fnExactNeighbourBound.proved
end Go.Proofs.Ytlbhpbaeokgmaaa
