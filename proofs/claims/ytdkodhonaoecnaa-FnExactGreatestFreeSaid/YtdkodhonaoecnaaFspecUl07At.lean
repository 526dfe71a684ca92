/- The reading of spec_l07At, and its contract. No condition. -/
import Derived.Test.YtdkodhonaoecnaaTy
import Derived.Test.YtdkodhonaoecnaaS8Fault
namespace Go.Proofs.Ytdkodhonaoecnaa
open Go Go.RowKit Eng Mem
set_option linter.unusedVariables false
set_option maxRecDepth 100000
def V_spec_l07At (part0 : Value) (kind1 : Int) (y2 : Int) (z3 : Int) (w : World) (K : Int → World → Prop) : Prop :=
  (((kind1 == (2 : Int)) = true → (∀ w_1, Drew w w_1 → (((decide ((IntKind.i64.wrap ((IntKind.i64.wrap ((2 : Int) * y2)) - z3)) < (1 : Int))) = true → K (0 : Int) w_1) ∧ ((decide ((IntKind.i64.wrap ((IntKind.i64.wrap ((2 : Int) * y2)) - z3)) < (1 : Int))) = false → (((decide ((IntKind.i64.wrap ((IntKind.i64.wrap ((2 : Int) * y2)) - z3)) > y2)) = true → K (0 : Int) w_1) ∧ ((decide ((IntKind.i64.wrap ((IntKind.i64.wrap ((2 : Int) * y2)) - z3)) > y2)) = false → (((decide (kind1 > (0 : Int))) = true → ((((IntKind.i64.wrap ((IntKind.i64.wrap ((2 : Int) * y2)) - z3)) == y2) = true → K (0 : Int) w_1) ∧ (((IntKind.i64.wrap ((IntKind.i64.wrap ((2 : Int) * y2)) - z3)) == y2) = false → (QAll Try.prog (Instr.indexAt 25 part0 (.int .i64 (IntKind.i64.wrap ((IntKind.i64.wrap ((IntKind.i64.wrap ((2 : Int) * y2)) - z3)) - (1 : Int))))) .any fun (x39_2 : Value) => (QSub Try.prog (Instr.loadAt 2 x39_2) w_1 (.int .i64) fun (x40_3 : Int) => (QAll Try.prog (Instr.indexAt 25 part0 (.int .i64 (IntKind.i64.wrap (y2 - (1 : Int))))) .any fun (x44_4 : Value) => (QSub Try.prog (Instr.loadAt 2 x44_4) w_1 (.int .i64) fun (x45_5 : Int) => (((x40_3 != x45_5) = true → K (0 : Int) w_1) ∧ ((x40_3 != x45_5) = false → (QAll Try.prog (Instr.indexAt 25 part0 (.int .i64 (IntKind.i64.wrap (y2 - (1 : Int))))) .any fun (x52_6 : Value) => (QSub Try.prog (Instr.loadAt 2 x52_6) w_1 (.int .i64) fun (x53_7 : Int) => (QAll Try.prog (Instr.indexAt 25 part0 (.int .i64 (IntKind.i64.wrap (z3 - (1 : Int))))) .any fun (x57_8 : Value) => (QSub Try.prog (Instr.loadAt 2 x57_8) w_1 (.int .i64) fun (x58_9 : Int) => (((x53_7 != x58_9) = true → K (0 : Int) w_1) ∧ ((x53_7 != x58_9) = false → K (IntKind.i64.wrap ((IntKind.i64.wrap ((2 : Int) * y2)) - z3)) w_1))))))))))))))) ∧ ((decide (kind1 > (0 : Int))) = false → (QAll Try.prog (Instr.indexAt 25 part0 (.int .i64 (IntKind.i64.wrap ((IntKind.i64.wrap ((IntKind.i64.wrap ((2 : Int) * y2)) - z3)) - (1 : Int))))) .any fun (x39_10 : Value) => (QSub Try.prog (Instr.loadAt 2 x39_10) w_1 (.int .i64) fun (x40_11 : Int) => (QAll Try.prog (Instr.indexAt 25 part0 (.int .i64 (IntKind.i64.wrap (y2 - (1 : Int))))) .any fun (x44_12 : Value) => (QSub Try.prog (Instr.loadAt 2 x44_12) w_1 (.int .i64) fun (x45_13 : Int) => (((x40_11 != x45_13) = true → K (0 : Int) w_1) ∧ ((x40_11 != x45_13) = false → (QAll Try.prog (Instr.indexAt 25 part0 (.int .i64 (IntKind.i64.wrap (y2 - (1 : Int))))) .any fun (x52_14 : Value) => (QSub Try.prog (Instr.loadAt 2 x52_14) w_1 (.int .i64) fun (x53_15 : Int) => (QAll Try.prog (Instr.indexAt 25 part0 (.int .i64 (IntKind.i64.wrap (z3 - (1 : Int))))) .any fun (x57_16 : Value) => (QSub Try.prog (Instr.loadAt 2 x57_16) w_1 (.int .i64) fun (x58_17 : Int) => (((x53_15 != x58_17) = true → K (0 : Int) w_1) ∧ ((x53_15 != x58_17) = false → K (IntKind.i64.wrap ((IntKind.i64.wrap ((2 : Int) * y2)) - z3)) w_1)))))))))))))))))))) ∧ ((kind1 == (2 : Int)) = false → (∀ w_18, Drew w w_18 → (((decide ((IntKind.i64.wrap (z3 - y2)) < (1 : Int))) = true → K (0 : Int) w_18) ∧ ((decide ((IntKind.i64.wrap (z3 - y2)) < (1 : Int))) = false → (((decide ((IntKind.i64.wrap (z3 - y2)) > y2)) = true → K (0 : Int) w_18) ∧ ((decide ((IntKind.i64.wrap (z3 - y2)) > y2)) = false → (((decide (kind1 > (0 : Int))) = true → ((((IntKind.i64.wrap (z3 - y2)) == y2) = true → K (0 : Int) w_18) ∧ (((IntKind.i64.wrap (z3 - y2)) == y2) = false → (QAll Try.prog (Instr.indexAt 25 part0 (.int .i64 (IntKind.i64.wrap ((IntKind.i64.wrap (z3 - y2)) - (1 : Int))))) .any fun (x39_19 : Value) => (QSub Try.prog (Instr.loadAt 2 x39_19) w_18 (.int .i64) fun (x40_20 : Int) => (QAll Try.prog (Instr.indexAt 25 part0 (.int .i64 (IntKind.i64.wrap (y2 - (1 : Int))))) .any fun (x44_21 : Value) => (QSub Try.prog (Instr.loadAt 2 x44_21) w_18 (.int .i64) fun (x45_22 : Int) => (((x40_20 != x45_22) = true → K (0 : Int) w_18) ∧ ((x40_20 != x45_22) = false → (QAll Try.prog (Instr.indexAt 25 part0 (.int .i64 (IntKind.i64.wrap (y2 - (1 : Int))))) .any fun (x52_23 : Value) => (QSub Try.prog (Instr.loadAt 2 x52_23) w_18 (.int .i64) fun (x53_24 : Int) => (QAll Try.prog (Instr.indexAt 25 part0 (.int .i64 (IntKind.i64.wrap (z3 - (1 : Int))))) .any fun (x57_25 : Value) => (QSub Try.prog (Instr.loadAt 2 x57_25) w_18 (.int .i64) fun (x58_26 : Int) => (((x53_24 != x58_26) = true → K (0 : Int) w_18) ∧ ((x53_24 != x58_26) = false → K (IntKind.i64.wrap (z3 - y2)) w_18))))))))))))))) ∧ ((decide (kind1 > (0 : Int))) = false → (QAll Try.prog (Instr.indexAt 25 part0 (.int .i64 (IntKind.i64.wrap ((IntKind.i64.wrap (z3 - y2)) - (1 : Int))))) .any fun (x39_27 : Value) => (QSub Try.prog (Instr.loadAt 2 x39_27) w_18 (.int .i64) fun (x40_28 : Int) => (QAll Try.prog (Instr.indexAt 25 part0 (.int .i64 (IntKind.i64.wrap (y2 - (1 : Int))))) .any fun (x44_29 : Value) => (QSub Try.prog (Instr.loadAt 2 x44_29) w_18 (.int .i64) fun (x45_30 : Int) => (((x40_28 != x45_30) = true → K (0 : Int) w_18) ∧ ((x40_28 != x45_30) = false → (QAll Try.prog (Instr.indexAt 25 part0 (.int .i64 (IntKind.i64.wrap (y2 - (1 : Int))))) .any fun (x52_31 : Value) => (QSub Try.prog (Instr.loadAt 2 x52_31) w_18 (.int .i64) fun (x53_32 : Int) => (QAll Try.prog (Instr.indexAt 25 part0 (.int .i64 (IntKind.i64.wrap (z3 - (1 : Int))))) .any fun (x57_33 : Value) => (QSub Try.prog (Instr.loadAt 2 x57_33) w_18 (.int .i64) fun (x58_34 : Int) => (((x53_32 != x58_34) = true → K (0 : Int) w_18) ∧ ((x53_32 != x58_34) = false → K (IntKind.i64.wrap (z3 - y2)) w_18)))))))))))))))))))))

theorem eq_spec_l07At (part0 : Value) (kind1 : Int) (y2 : Int) (z3 : Int) (w : World) (K : Int → World → Prop) :
    W Try.prog ty (fun _ _ _ _ => False) (bodyOf Try.f116) (fnPost Try.prog Try.f116.results.toList (.one (.int .i64)) K) (frame0 [part0, (.int .i64 kind1), (.int .i64 y2), (.int .i64 z3)] 62) w = V_spec_l07At part0 kind1 y2 z3 w K := by
  kernel_rfl

theorem body_spec_l07At : Try.f116.body = some (bodyOf Try.f116) := by kernel_rfl
theorem name_spec_l07At : (Try.f116.name == "runtime.NumGoroutine") = false := by kernel_rfl

theorem walk_spec_l07At (part0 : Value) (kind1 : Int) (y2 : Int) (z3 : Int) {w : World} {K : Int → World → Prop} (h : V_spec_l07At part0 kind1 y2 z3 w K) : Fc Try.prog 116 #[part0, (.int .i64 kind1), (.int .i64 y2), (.int .i64 z3)] w (.one (.int .i64)) K :=
  fn_ok follows (sound_none _) Try.func116 name_spec_l07At body_spec_l07At Try.ntmps116 [part0, (.int .i64 kind1), (.int .i64 y2), (.int .i64 z3)] (Eq.mpr (eq_spec_l07At part0 kind1 y2 z3 w K) h)

-- uses S8Fault
theorem c_spec_l07At {a : Value} {l : List Int} {kind y z : Int} {w : World} {K : Int → World → Prop} (h : SlI w a l) (hl : l.length ≤ 41) (y0 : 1 ≤ y) (y1 : y < z) (z1 : z ≤ l.length)
    (hK : ∀ w', Below w.heap.size w w' → K (if IsF l kind y z then xF kind y z else 0) w') : Fc Try.prog F_spec_l07At #[a, .int .i64 kind, .int .i64 y, .int .i64 z] w (.one (.int .i64)) K := by
  refine walk_spec_l07At _ _ _ _ ?_
  refine ⟨fun hk w1 hd => ?_, fun hk w1 hd => ?_⟩
  · have hk := eq_t hk
    have e : IntKind.i64.wrap (IntKind.i64.wrap (2 * y) - z) = 2 * y - z := by rw [wrap_small (n := 2 * y) (by omega) (by omega), wrap_small (by omega) (by omega)]
    rw [e]
    have hx : 2 * y - z = xF kind y z := by rw [xF, if_pos hk]
    have hx0 : 2 * y - z ≤ 1000 ∧ -1000 ≤ 2 * y - z := by omega
    generalize 2 * y - z = x at *
    have hb := hd.below w.heap.size
    have hs := h.keep hb
    have k := hK w1 hb
    have no : ¬ IsF l kind y z → K 0 w1 := fun hn => by rwa [if_neg hn] at k
    have yes : IsF l kind y z → K x w1 := fun hn => by rwa [if_pos hn, ← hx] at k
    unfold IsF at no yes
    rw [← hx] at no yes
    refine ⟨fun e => no fun hh => by have := dec_t e; omega, fun e1 => ⟨fun e => no fun hh => by have := dec_t e; omega, fun e2 => ?_⟩⟩
    have e1 := dec_f e1
    have e2 := dec_f e2
    refine ⟨fun e3 => ⟨fun e => no fun hh => hh.2.2.1 ⟨dec_t e3, eq_t e⟩, fun e4 => ?_⟩, fun e3 => ?_⟩
    · have hkk : ¬ (kind > 0 ∧ x = y) := fun hh => eq_f e4 hh.2
      rw [wrap_small (n := x - 1) (by omega) (by omega), wrap_small (n := y - 1) (by omega) (by omega), wrap_small (n := z - 1) (by omega) (by omega)]
      refine atI hs (by omega) (by omega) (atI hs (by omega) (by omega) ⟨fun e => no fun hh => ne_t e hh.2.2.2.1, fun e3 => ?_⟩)
      have e3 := ne_f e3
      refine atI hs (by omega) (by omega) (atI hs (by omega) (by omega) ⟨fun e => no fun hh => ne_t e hh.2.2.2.2, fun e4 => ?_⟩)
      have e4 := ne_f e4
      exact yes ⟨by omega, by omega, hkk, e3, e4⟩
    · have hkk : ¬ (kind > 0 ∧ x = y) := fun hh => dec_f e3 hh.1
      rw [wrap_small (n := x - 1) (by omega) (by omega), wrap_small (n := y - 1) (by omega) (by omega), wrap_small (n := z - 1) (by omega) (by omega)]
      refine atI hs (by omega) (by omega) (atI hs (by omega) (by omega) ⟨fun e => no fun hh => ne_t e hh.2.2.2.1, fun e3 => ?_⟩)
      have e3 := ne_f e3
      refine atI hs (by omega) (by omega) (atI hs (by omega) (by omega) ⟨fun e => no fun hh => ne_t e hh.2.2.2.2, fun e4 => ?_⟩)
      have e4 := ne_f e4
      exact yes ⟨by omega, by omega, hkk, e3, e4⟩
  · have hk := eq_f hk
    have e : IntKind.i64.wrap (z - y) = z - y := wrap_small (by omega) (by omega)
    rw [e]
    have hx : z - y = xF kind y z := by rw [xF, if_neg hk]
    have hx0 : z - y ≤ 1000 ∧ -1000 ≤ z - y := by omega
    generalize z - y = x at *
    have hb := hd.below w.heap.size
    have hs := h.keep hb
    have k := hK w1 hb
    have no : ¬ IsF l kind y z → K 0 w1 := fun hn => by rwa [if_neg hn] at k
    have yes : IsF l kind y z → K x w1 := fun hn => by rwa [if_pos hn, ← hx] at k
    unfold IsF at no yes
    rw [← hx] at no yes
    refine ⟨fun e => no fun hh => by have := dec_t e; omega, fun e1 => ⟨fun e => no fun hh => by have := dec_t e; omega, fun e2 => ?_⟩⟩
    have e1 := dec_f e1
    have e2 := dec_f e2
    refine ⟨fun e3 => ⟨fun e => no fun hh => hh.2.2.1 ⟨dec_t e3, eq_t e⟩, fun e4 => ?_⟩, fun e3 => ?_⟩
    · have hkk : ¬ (kind > 0 ∧ x = y) := fun hh => eq_f e4 hh.2
      rw [wrap_small (n := x - 1) (by omega) (by omega), wrap_small (n := y - 1) (by omega) (by omega), wrap_small (n := z - 1) (by omega) (by omega)]
      refine atI hs (by omega) (by omega) (atI hs (by omega) (by omega) ⟨fun e => no fun hh => ne_t e hh.2.2.2.1, fun e3 => ?_⟩)
      have e3 := ne_f e3
      refine atI hs (by omega) (by omega) (atI hs (by omega) (by omega) ⟨fun e => no fun hh => ne_t e hh.2.2.2.2, fun e4 => ?_⟩)
      have e4 := ne_f e4
      exact yes ⟨by omega, by omega, hkk, e3, e4⟩
    · have hkk : ¬ (kind > 0 ∧ x = y) := fun hh => dec_f e3 hh.1
      rw [wrap_small (n := x - 1) (by omega) (by omega), wrap_small (n := y - 1) (by omega) (by omega), wrap_small (n := z - 1) (by omega) (by omega)]
      refine atI hs (by omega) (by omega) (atI hs (by omega) (by omega) ⟨fun e => no fun hh => ne_t e hh.2.2.2.1, fun e3 => ?_⟩)
      have e3 := ne_f e3
      refine atI hs (by omega) (by omega) (atI hs (by omega) (by omega) ⟨fun e => no fun hh => ne_t e hh.2.2.2.2, fun e4 => ?_⟩)
      have e4 := ne_f e4
      exact yes ⟨by omega, by omega, hkk, e3, e4⟩

end Go.Proofs.Ytdkodhonaoecnaa
