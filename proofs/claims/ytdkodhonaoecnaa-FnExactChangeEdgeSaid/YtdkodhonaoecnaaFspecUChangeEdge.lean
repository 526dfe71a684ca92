/- The reading of spec_ChangeEdge, and its contract. No condition. -/
import Derived.Test.YtdkodhonaoecnaaTy
import Derived.Test.YtdkodhonaoecnaaS7Chg
import Derived.Test.YtdkodhonaoecnaaFspecUl01Given
import Derived.Test.YtdkodhonaoecnaaFspecUl01With
namespace Go.Proofs.Ytdkodhonaoecnaa
open Go Go.RowKit Eng Mem
set_option linter.unusedVariables false
set_option maxRecDepth 100000
def V_spec_ChangeEdge (x0 : Value) (i1 : Int) (j2 : Int) (c3 : Int) (w : World) (K : (Value × Int) → World → Prop) : Prop :=
  (Pr Try.prog (Instr.box 28 x0) w (.one .any) fun (x4_2 : Value) w_1 => (Pr Try.prog (Instr.alloc 28 true (.tuple #[])) w_1 (.one .any) fun (x8_4 : Value) w_3 => (QSub Try.prog (Instr.loadAt 28 x4_2) w_3 .any fun (x11_5 : Value) => (Pr Try.prog (Instr.buildSlice 25 2 #[(0, (.int .i64 i1)), (1, (.int .i64 j2))]) w_3 (.one .any) fun (x15_7 : Value) w_6 => (Fc Try.prog 70 #[x11_5, (.int .i64 c3), x15_7] w_6 (.one (.int .i64)) fun (x16_9 : Int) w_8 => (((x16_9 == (0 : Int)) = true → (((i1 == j2) = true → ((((2 : Int) != (0 : Int)) = true → (Pr Try.prog (Instr.build 28 #[]) w_8 (.one .any) fun (x26_11 : Value) w_10 => (PrU Try.prog (Instr.storeAt 28 x8_4 x26_11) w_10 fun w_12 => (QSub Try.prog (Instr.loadAt 28 x8_4) w_12 .any fun (r_14 : Value) => K ((r_14 : Value), (2 : Int)) w_12)))) ∧ (((2 : Int) != (0 : Int)) = false → (QSub Try.prog (Instr.loadAt 28 x4_2) w_8 .any fun (x28_15 : Value) => (Fc Try.prog 71 #[x28_15, (.int .i64 i1), (.int .i64 j2), (.int .i64 c3)] w_8 (.one .any) fun (x32_17 : Value) w_16 => (PrU Try.prog (Instr.storeAt 28 x8_4 x32_17) w_16 fun w_18 => (QSub Try.prog (Instr.loadAt 28 x8_4) w_18 .any fun (r_20 : Value) => K ((r_20 : Value), (0 : Int)) w_18))))))) ∧ ((i1 == j2) = false → (((x16_9 != (0 : Int)) = true → (Pr Try.prog (Instr.build 28 #[]) w_8 (.one .any) fun (x26_22 : Value) w_21 => (PrU Try.prog (Instr.storeAt 28 x8_4 x26_22) w_21 fun w_23 => (QSub Try.prog (Instr.loadAt 28 x8_4) w_23 .any fun (r_25 : Value) => K ((r_25 : Value), x16_9) w_23)))) ∧ ((x16_9 != (0 : Int)) = false → (QSub Try.prog (Instr.loadAt 28 x4_2) w_8 .any fun (x28_26 : Value) => (Fc Try.prog 71 #[x28_26, (.int .i64 i1), (.int .i64 j2), (.int .i64 c3)] w_8 (.one .any) fun (x32_28 : Value) w_27 => (PrU Try.prog (Instr.storeAt 28 x8_4 x32_28) w_27 fun w_29 => (QSub Try.prog (Instr.loadAt 28 x8_4) w_29 .any fun (r_31 : Value) => K ((r_31 : Value), (0 : Int)) w_29))))))))) ∧ ((x16_9 == (0 : Int)) = false → (((x16_9 != (0 : Int)) = true → (Pr Try.prog (Instr.build 28 #[]) w_8 (.one .any) fun (x26_33 : Value) w_32 => (PrU Try.prog (Instr.storeAt 28 x8_4 x26_33) w_32 fun w_34 => (QSub Try.prog (Instr.loadAt 28 x8_4) w_34 .any fun (r_36 : Value) => K ((r_36 : Value), x16_9) w_34)))) ∧ ((x16_9 != (0 : Int)) = false → (QSub Try.prog (Instr.loadAt 28 x4_2) w_8 .any fun (x28_37 : Value) => (Fc Try.prog 71 #[x28_37, (.int .i64 i1), (.int .i64 j2), (.int .i64 c3)] w_8 (.one .any) fun (x32_39 : Value) w_38 => (PrU Try.prog (Instr.storeAt 28 x8_4 x32_39) w_38 fun w_40 => (QSub Try.prog (Instr.loadAt 28 x8_4) w_40 .any fun (r_42 : Value) => K ((r_42 : Value), (0 : Int)) w_40)))))))))))))

theorem eq_spec_ChangeEdge (x0 : Value) (i1 : Int) (j2 : Int) (c3 : Int) (w : World) (K : (Value × Int) → World → Prop) :
    W Try.prog ty (fun _ _ _ _ => False) (bodyOf Try.f27) (fnPost Try.prog Try.f27.results.toList (.two .any (.int .i64)) K) (frame0 [x0, (.int .i64 i1), (.int .i64 j2), (.int .i64 c3)] 33) w = V_spec_ChangeEdge x0 i1 j2 c3 w K := by
  kernel_rfl

theorem body_spec_ChangeEdge : Try.f27.body = some (bodyOf Try.f27) := by kernel_rfl
theorem name_spec_ChangeEdge : (Try.f27.name == "runtime.NumGoroutine") = false := by kernel_rfl

theorem walk_spec_ChangeEdge (x0 : Value) (i1 : Int) (j2 : Int) (c3 : Int) {w : World} {K : (Value × Int) → World → Prop} (h : V_spec_ChangeEdge x0 i1 j2 c3 w K) : Fc Try.prog 27 #[x0, (.int .i64 i1), (.int .i64 j2), (.int .i64 c3)] w (.two .any (.int .i64)) K :=
  fn_ok follows (sound_none _) Try.func27 name_spec_ChangeEdge body_spec_ChangeEdge Try.ntmps27 [x0, (.int .i64 i1), (.int .i64 j2), (.int .i64 c3)] (Eq.mpr (eq_spec_ChangeEdge x0 i1 j2 c3 w K) h)

-- uses S7Chg
theorem c_spec_ChangeEdge {c : Col} {i j x : Int} {w : World} {K : Value × Int → World → Prop} (hc : c.Ok) (_ : I64 i) (_ : I64 j) (_ : I64 x)
    (hK : ∀ w', Below w.heap.size w w' → (chgOf c i j x).1.Ok → K ((chgOf c i j x).1.val, (chgOf c i j x).2) w') : Fc Try.prog F_spec_ChangeEdge #[c.val, .int .i64 i, .int .i64 j, .int .i64 x] w (.two .any (.int .i64)) K := by
  have hK := fun w' hb => hK w' hb (chgOf_ok hc i j x)
  unfold chgOf at hK
  refine walk_spec_ChangeEdge _ _ _ _ (col_box fun b1 w1 n1 hx => c_alloc fun p w2 hb2 hv => col_all hc (hx.keep hb2) (twoI fun v w3 hb3 hs => c_spec_l01Given hc hs fun w4 hb4 => ?_))
  have q2 := n1.below.trans (hb2.mono n1.below.size)
  have q3 := q2.trans (hb3.mono q2.size)
  have q4 := q3.trans (hb4.mono q3.size)
  have hs1 := n1.below.size; have hs2 := hb2.size; have hs3 := hb3.size; have hs4 := hb4.size
  have hv4 := (hv.keep hb3).keep hb4
  have hx4 := ((hx.keep hb2).keep hb3).keep hb4
  have e : AllIn [i, j] 0 (c.n - 1) ↔ (0 ≤ i ∧ i ≤ c.n - 1) ∧ (0 ≤ j ∧ j ≤ c.n - 1) := by simp [AllIn]
  by_cases hI : c.Is
  · rw [if_pos hI] at hK ⊢
    have n0 := hI.1; have n1' := hI.2.1; have k0 := hI.2.2.1; have k1 := hI.2.2.2.1
    by_cases ha : (0 ≤ x ∧ x ≤ c.k - 1) ∧ AllIn [i, j] 0 (c.n - 1)
    · rw [if_pos ha]
      have hb := e.1 ha.2
      refine ⟨fun _ => ⟨fun he => ⟨fun _ => c_none hv4 (by omega) fun w' hb' => ?_, fun h => absurd (ne_f h) (by omega)⟩, fun he => ⟨fun h => absurd rfl (ne_t h), fun _ => col_all hc hx4 ?_⟩⟩, fun h => absurd rfl (eq_f h)⟩
      · rw [if_neg (fun hh => hh.2.2.1 (eq_t he))] at hK
        exact hK w' (q4.trans (hb'.mono hs1))
      · have hg : chgIs c i j x := ⟨hb.1, hb.2, eq_f he, ha.1⟩
        rw [if_pos hg] at hK
        refine c_spec_l01With hc hb.1.1 (by omega) hb.2.1 (by omega) (eq_f he) ha.1.1 (by omega) fun w5 hb5 => ?_
        have hok : (c.setE (num i j).toNat x).Ok := hc.setE _ ha.1.1 (by omega)
        have hs5 := hb5.size
        exact c_ret hok (hv4.keep hb5) (by omega) fun w6 hb6 => hK w6 ((q4.trans (hb5.mono q4.size)).trans (hb6.mono hs1))
    · rw [if_neg ha]
      rw [if_neg (fun hh => ha ⟨hh.2.2.2, e.2 ⟨hh.1, hh.2.1⟩⟩)] at hK
      exact ⟨fun h => absurd (eq_t h) (by omega), fun _ => ⟨fun _ => c_none hv4 (by omega) fun w' hb' => hK w' (q4.trans (hb'.mono hs1)), fun h => absurd (ne_f h) (by omega)⟩⟩
  · rw [if_neg hI] at hK ⊢
    exact ⟨fun h => absurd (eq_t h) (by omega), fun _ => ⟨fun _ => c_none hv4 (by omega) fun w' hb' => hK w' (q4.trans (hb'.mono hs1)), fun h => absurd (ne_f h) (by omega)⟩⟩

end Go.Proofs.Ytdkodhonaoecnaa
