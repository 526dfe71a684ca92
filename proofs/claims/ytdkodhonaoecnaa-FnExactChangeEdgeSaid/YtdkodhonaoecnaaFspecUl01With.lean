/- The reading of spec_l01With, and its contract. No condition. -/
import Derived.Test.YtdkodhonaoecnaaTy
import Derived.Test.YtdkodhonaoecnaaS7Chg
import Derived.Test.YtdkodhonaoecnaaFspecUl01Edge
namespace Go.Proofs.Ytdkodhonaoecnaa
open Go Go.RowKit Eng Mem
set_option linter.unusedVariables false
set_option maxRecDepth 100000
def V_spec_l01With (x0 : Value) (i1 : Int) (j2 : Int) (c3 : Int) (w : World) (K : Value → World → Prop) : Prop :=
  (Pr Try.prog (Instr.box 28 x0) w (.one .any) fun (x4_2 : Value) w_1 => (Pr Try.prog (Instr.alloc 28 true (.tuple #[])) w_1 (.one .any) fun (x8_4 : Value) w_3 => (Fc Try.prog 66 #[(.int .i64 i1), (.int .i64 j2)] w_3 (.one (.int .i64)) fun (x11_6 : Int) w_5 => (QAll Try.prog (convert 2 5 (.int .i64 c3)) (.int .u8) fun (x13_7 : Int) => (QAll Try.prog (Instr.fieldAt 28 x4_2 2) .any fun (x14_8 : Value) => (QAll Try.prog (Instr.indexAt 26 x14_8 (.int .i64 x11_6)) .any fun (x15_9 : Value) => (PrU Try.prog (Instr.storeAt 5 x15_9 (.int .u8 x13_7)) w_5 fun w_10 => (QSub Try.prog (Instr.loadAt 28 x4_2) w_10 .any fun (x16_12 : Value) => (PrU Try.prog (Instr.storeAt 28 x8_4 x16_12) w_10 fun w_13 => (QSub Try.prog (Instr.loadAt 28 x8_4) w_13 .any fun (r_15 : Value) => K (r_15 : Value) w_13))))))))))

theorem eq_spec_l01With (x0 : Value) (i1 : Int) (j2 : Int) (c3 : Int) (w : World) (K : Value → World → Prop) :
    W Try.prog ty (fun _ _ _ _ => False) (bodyOf Try.f71) (fnPost Try.prog Try.f71.results.toList (.one .any) K) (frame0 [x0, (.int .i64 i1), (.int .i64 j2), (.int .i64 c3)] 17) w = V_spec_l01With x0 i1 j2 c3 w K := by
  kernel_rfl

theorem body_spec_l01With : Try.f71.body = some (bodyOf Try.f71) := by kernel_rfl
theorem name_spec_l01With : (Try.f71.name == "runtime.NumGoroutine") = false := by kernel_rfl

theorem walk_spec_l01With (x0 : Value) (i1 : Int) (j2 : Int) (c3 : Int) {w : World} {K : Value → World → Prop} (h : V_spec_l01With x0 i1 j2 c3 w K) : Fc Try.prog 71 #[x0, (.int .i64 i1), (.int .i64 j2), (.int .i64 c3)] w (.one .any) K :=
  fn_ok follows (sound_none _) Try.func71 name_spec_l01With body_spec_l01With Try.ntmps71 [x0, (.int .i64 i1), (.int .i64 j2), (.int .i64 c3)] (Eq.mpr (eq_spec_l01With x0 i1 j2 c3 w K) h)

-- uses S7Chg
theorem c_spec_l01With {c : Col} {i j x : Int} {w : World} {K : Value → World → Prop} (hc : c.Ok) (i0 : 0 ≤ i) (i1 : i < 17) (j0 : 0 ≤ j) (j1 : j < 17) (hne : i ≠ j) (x0 : 0 ≤ x) (x1 : x < 256)
    (hK : ∀ w', Below w.heap.size w w' → K (c.setE (num i j).toNat x).val w') : Fc Try.prog F_spec_l01With #[c.val, .int .i64 i, .int .i64 j, .int .i64 x] w (.one .any) K := by
  have hn := num_lt i0 i1 j0 j1 (Int.le_refl _) hne
  rw [show edgesOf 17 = 136 from by decide] at hn
  have hok : (c.setE (num i j).toNat x).Ok := hc.setE _ x0 x1
  refine walk_spec_l01With _ _ _ _ (col_box fun b1 w1 n1 hx => c_alloc fun p w2 hb2 hv => c_spec_l01Edge i0 (by omega) j0 (by omega) (int_u8 x0 x1 (fldp f2 ?_)))
  have e1 := n1.here; have s1 := n1.size; have hs2 := hb2.size
  have bx : BlkC w2 b1 ⟨c.n, c.k, c.es⟩ := below_at hb2 n1.at_ (at_lt n1.at_)
  refine put_e bx hc.len hn.1 hn.2 fun w3 m3 s3 h3 => ?_
  have hv3 : CVar w1.heap.size w3 p := by
    obtain ⟨b', l, rfl, hB, hl, hn⟩ := hv
    exact ⟨b', l, rfl, hB, m3.at_ hl (by simp; omega), hn⟩
  exact col_all hok (blk_row h3) (c_ret hok hv3 (by omega) fun w4 hb4 => hK w4 (((n1.below.trans (hb2.mono n1.below.size)).trans (m3.below (by omega) (by simp; omega))).trans (hb4.mono (by omega))))

end Go.Proofs.Ytdkodhonaoecnaa
