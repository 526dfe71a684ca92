/- The reading of impl_ChangeEdge_1, and its contract. No condition. -/
import Derived.Test.YtdkodhonaoecnaaTy
import Derived.Test.YtdkodhonaoecnaaS7Chg
import Derived.Test.YtdkodhonaoecnaaFimplUColouringUhasColour
import Derived.Test.YtdkodhonaoecnaaFimplUColouringUhasTwo
namespace Go.Proofs.Ytdkodhonaoecnaa
open Go Go.RowKit Eng Mem
set_option linter.unusedVariables false
set_option maxRecDepth 100000
def V_impl_ChangeEdge_1 (x0 : Value) (x1 : Value) (x2 : Value) (x3 : Value) (w : World) (K : Bool → World → Prop) : Prop :=
  (QSub Try.prog (Instr.loadAt 2 x1) w (.int .i64) fun (x5_1 : Int) => (QSub Try.prog (Instr.loadAt 2 x2) w (.int .i64) fun (x6_2 : Int) => (Fc Try.prog 74 #[x0, (.int .i64 x5_1), (.int .i64 x6_2)] w (.one .bool) fun (x7_4 : Bool) w_3 => ((x7_4 = true → (QSub Try.prog (Instr.loadAt 2 x3) w_3 (.int .i64) fun (x9_5 : Int) => (Fc Try.prog 75 #[x0, (.int .i64 x9_5)] w_3 (.one .bool) fun (x10_7 : Bool) w_6 => K x10_7 w_6))) ∧ (x7_4 = false → K false w_3)))))

theorem eq_impl_ChangeEdge_1 (x0 : Value) (x1 : Value) (x2 : Value) (x3 : Value) (w : World) (K : Bool → World → Prop) :
    W Try.prog ty (fun _ _ _ _ => False) (bodyOf Try.f73) (fnPost Try.prog Try.f73.results.toList (.one .bool) K) (frame0 [x0, x1, x2, x3] 12) w = V_impl_ChangeEdge_1 x0 x1 x2 x3 w K := by
  kernel_rfl

theorem body_impl_ChangeEdge_1 : Try.f73.body = some (bodyOf Try.f73) := by kernel_rfl
theorem name_impl_ChangeEdge_1 : (Try.f73.name == "runtime.NumGoroutine") = false := by kernel_rfl

theorem walk_impl_ChangeEdge_1 (x0 : Value) (x1 : Value) (x2 : Value) (x3 : Value) {w : World} {K : Bool → World → Prop} (h : V_impl_ChangeEdge_1 x0 x1 x2 x3 w K) : Fc Try.prog 73 #[x0, x1, x2, x3] w (.one .bool) K :=
  fn_ok follows (sound_none _) Try.func73 name_impl_ChangeEdge_1 body_impl_ChangeEdge_1 Try.ntmps73 [x0, x1, x2, x3] (Eq.mpr (eq_impl_ChangeEdge_1 x0 x1 x2 x3 w K) h)

-- uses S7Chg
theorem c_impl_ChangeEdge_1 {p q r s : Value} {c : Col} {i j x : Int} {w : World} {K : Bool → World → Prop} (hI : c.Is) (hx : ColAt w p c) (hq : Cell w q (.int .i64 i)) (hr : Cell w r (.int .i64 j)) (hs : Cell w s (.int .i64 x)) (hK : K (decide (chgIs c i j x)) w) :
    Fc Try.prog F_impl_ChangeEdge_1 #[p, q, r, s] w (.one .bool) K := by
  have n0 := hI.1; have n1 := hI.2.1; have k0 := hI.2.2.1; have k1 := hI.2.2.2.1
  refine walk_impl_ChangeEdge_1 _ _ _ _ (ld (k := .int .i64) yI hq (ld (k := .int .i64) yI hr (c_impl_Colouring_hasTwo hx (by omega) n1 ⟨fun h => ld (k := .int .i64) yI hs (c_impl_Colouring_hasColour hx (by omega) k1 ?_), fun h => ?_⟩)))
  · have h := dec_t h
    have : decide (chgIs c i j x) = decide (0 ≤ x ∧ x ≤ c.k - 1) := by
      rw [Bool.eq_iff_iff]; simp only [decide_eq_true_iff]; exact ⟨fun hh => hh.2.2.2, fun hh => ⟨h.1, h.2.1, h.2.2, hh⟩⟩
    rwa [this] at hK
  · have h := dec_f h
    rwa [decide_eq_false (fun hh => h ⟨hh.1, hh.2.1, hh.2.2.1⟩)] at hK

end Go.Proofs.Ytdkodhonaoecnaa
