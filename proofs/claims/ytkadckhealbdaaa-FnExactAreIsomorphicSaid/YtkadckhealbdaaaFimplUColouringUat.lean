/- The reading of impl_Colouring_at, and its contract. No condition. -/
import Derived.Test.YtkadckhealbdaaaTy
import Derived.Test.YtkadckhealbdaaaS5Made
import Derived.Test.YtkadckhealbdaaaFimplUnumber
namespace Go.Proofs.Ytkadckhealbdaaa
open Go Go.RowKit Eng Mem
set_option linter.unusedVariables false
set_option maxRecDepth 100000
def V_impl_Colouring_at (x0 : Value) (i1 : Int) (j2 : Int) (w : World) (K : Int → World → Prop) : Prop :=
  (∀ w_1, Drew w w_1 → (NilOk x0 ∧ (QAll Try.prog (Instr.fieldAt 25 x0 2) .any fun (x12_2 : Value) => (Fc Try.prog 115 #[(.int .i64 i1), (.int .i64 j2)] w_1 (.one (.int .i64)) fun (x10_4 : Int) w_3 => (Keeps w_1 w_3 ((QAll Try.prog (Instr.indexAt 22 x12_2 (.int .i64 x10_4)) .any fun (x13_5 : Value) => (QSub Try.prog (Instr.loadAt 5 x13_5) w_3 (.int .u8) fun (x14_6 : Int) => (QAll Try.prog (convert 5 2 (.int .u8 x14_6)) (.int .i64) fun (x15_7 : Int) => K x15_7 w_3)))))))))

theorem eq_impl_Colouring_at (x0 : Value) (i1 : Int) (j2 : Int) (w : World) (K : Int → World → Prop) :
    W Try.prog ty (fun _ _ _ _ => False) (bodyOf Try.f89) (fnPost Try.prog Try.f89.results.toList (.one (.int .i64)) K) (frame0 [x0, (.int .i64 i1), (.int .i64 j2)] 16) w = V_impl_Colouring_at x0 i1 j2 w K := by
  kernel_rfl

theorem body_impl_Colouring_at : Try.f89.body = some (bodyOf Try.f89) := by kernel_rfl
theorem name_impl_Colouring_at : (Try.f89.name == "runtime.NumGoroutine") = false := by kernel_rfl

theorem walk_impl_Colouring_at (x0 : Value) (i1 : Int) (j2 : Int) {w : World} {K : Int → World → Prop} (h : V_impl_Colouring_at x0 i1 j2 w K) : Fc Try.prog 89 #[x0, (.int .i64 i1), (.int .i64 j2)] w (.one (.int .i64)) K :=
  fn_ok follows (sound_none _) Try.func89 name_impl_Colouring_at body_impl_Colouring_at Try.ntmps89 [x0, (.int .i64 i1), (.int .i64 j2)] (Eq.mpr (eq_impl_Colouring_at x0 i1 j2 w K) h)

-- uses S5Made
theorem c_impl_Colouring_at {p : Value} {c : Col} {i j : Int} {w : World} {K : Int → World → Prop} (hc : c.Ok) (hx : ColAt w p c) (h0 : 0 ≤ i) (h1 : i < 17) (k0 : 0 ≤ j) (k1 : j < 17) (hne : i ≠ j) (hK : ∀ w', Below w.heap.size w w' → K (c.e (num i j).toNat) w') :
    Fc Try.prog F_impl_Colouring_at #[p, .int .i64 i, .int .i64 j] w (.one (.int .i64)) K := by
  refine walk_impl_Colouring_at _ _ _ ?_
  intro w1 hd
  have hb := hd.below w.heap.size
  have hx := hx.keep hb
  have hn := num_lt h0 h1 k0 k1 (Int.le_refl _) hne
  rw [show edgesOf 17 = 136 from by decide] at hn
  have hbd := hc.e_bd (num i j).toNat
  exact ⟨hx.nonnil, fld f2 hx.nonnil hx.isPtr (c_impl_number h0 (by omega) k0 (by omega) ⟨Below.refl _ _, es_e hc (Col.es_row hx) hn.1 hn.2 (u8_int hbd.1 hbd.2 (hK w1 hb))⟩)⟩

end Go.Proofs.Ytkadckhealbdaaa
