/- The reading of spec_l01At, and its contract. No condition. -/
import Derived.Test.YtkadckhealbdaaaTy
import Derived.Test.YtkadckhealbdaaaS5Made
import Derived.Test.YtkadckhealbdaaaFspecUl01Edge
namespace Go.Proofs.Ytkadckhealbdaaa
open Go Go.RowKit Eng Mem
set_option linter.unusedVariables false
set_option maxRecDepth 100000
def V_spec_l01At (x0 : Value) (i1 : Int) (j2 : Int) (w : World) (K : Int → World → Prop) : Prop :=
  (Pr Try.prog (Instr.box 25 x0) w (.one .any) fun (x3_2 : Value) w_1 => (Fc Try.prog 128 #[(.int .i64 i1), (.int .i64 j2)] w_1 (.one (.int .i64)) fun (x9_4 : Int) w_3 => (QAll Try.prog (Instr.fieldAt 25 x3_2 2) .any fun (x10_5 : Value) => (QAll Try.prog (Instr.indexAt 22 x10_5 (.int .i64 x9_4)) .any fun (x11_6 : Value) => (QSub Try.prog (Instr.loadAt 5 x11_6) w_3 (.int .u8) fun (x12_7 : Int) => (QAll Try.prog (convert 5 2 (.int .u8 x12_7)) (.int .i64) fun (x13_8 : Int) => K x13_8 w_3))))))

theorem eq_spec_l01At (x0 : Value) (i1 : Int) (j2 : Int) (w : World) (K : Int → World → Prop) :
    W Try.prog ty (fun _ _ _ _ => False) (bodyOf Try.f118) (fnPost Try.prog Try.f118.results.toList (.one (.int .i64)) K) (frame0 [x0, (.int .i64 i1), (.int .i64 j2)] 14) w = V_spec_l01At x0 i1 j2 w K := by
  kernel_rfl

theorem body_spec_l01At : Try.f118.body = some (bodyOf Try.f118) := by kernel_rfl
theorem name_spec_l01At : (Try.f118.name == "runtime.NumGoroutine") = false := by kernel_rfl

theorem walk_spec_l01At (x0 : Value) (i1 : Int) (j2 : Int) {w : World} {K : Int → World → Prop} (h : V_spec_l01At x0 i1 j2 w K) : Fc Try.prog 118 #[x0, (.int .i64 i1), (.int .i64 j2)] w (.one (.int .i64)) K :=
  fn_ok follows (sound_none _) Try.func118 name_spec_l01At body_spec_l01At Try.ntmps118 [x0, (.int .i64 i1), (.int .i64 j2)] (Eq.mpr (eq_spec_l01At x0 i1 j2 w K) h)

-- uses S5Made
theorem c_spec_l01At {c : Col} {i j : Int} {w : World} {K : Int → World → Prop} (hc : c.Ok) (h0 : 0 ≤ i) (h1 : i < 17) (k0 : 0 ≤ j) (k1 : j < 17) (hne : i ≠ j) (hK : ∀ w', Below w.heap.size w w' → K (c.e (num i j).toNat) w') :
    Fc Try.prog F_spec_l01At #[c.val, .int .i64 i, .int .i64 j] w (.one (.int .i64)) K := by
  have hn := num_lt h0 h1 k0 k1 (Int.le_refl _) hne
  rw [show edgesOf 17 = 136 from by decide] at hn
  have hbd := hc.e_bd (num i j).toNat
  exact walk_spec_l01At _ _ _ (col_box fun b w1 n1 hx => c_spec_l01Edge h0 (by omega) k0 (by omega) (col_e hc hx hn.1 hn.2 (u8_int hbd.1 hbd.2 (hK w1 n1.below))))

end Go.Proofs.Ytkadckhealbdaaa
