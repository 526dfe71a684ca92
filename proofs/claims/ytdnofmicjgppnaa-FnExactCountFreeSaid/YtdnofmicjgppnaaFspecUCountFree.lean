/- The reading of spec_CountFree, and its contract. No condition. -/
import Derived.Test.YtdnofmicjgppnaaTy
import Derived.Test.YtdnofmicjgppnaaS8CF
import Derived.Test.YtdnofmicjgppnaaFspecUl01In
import Derived.Test.YtdnofmicjgppnaaFspecUl07Code
import Derived.Test.YtdnofmicjgppnaaFspecUl07Count
namespace Go.Proofs.Ytdnofmicjgppnaa
open Go Go.RowKit Eng Mem
set_option linter.unusedVariables false
set_option maxRecDepth 100000
def V_spec_CountFree (n0 : Int) (k1 : Int) (kind2 : Int) (w : World) (K : (Int × Int) → World → Prop) : Prop :=
  (Fc Try.prog 43 #[(.int .i64 n0), (.int .i64 (0 : Int)), (.int .i64 (12 : Int))] w (.one .bool) fun (x9_2 : Bool) w_1 => (((!x9_2) = true → K ((0 : Int), (2 : Int)) w_1) ∧ ((!x9_2) = false → (Fc Try.prog 42 #[(.int .i64 k1), (.slice none 0 0), (.int .i64 kind2)] w_1 (.one (.int .i64)) fun (x14_4 : Int) w_3 => (((x14_4 != (0 : Int)) = true → K ((0 : Int), (2 : Int)) w_3) ∧ ((x14_4 != (0 : Int)) = false → (Pr Try.prog (Instr.buildSlice 22 0 #[]) w_3 (.one .any) fun (x19_6 : Value) w_5 => (Fc Try.prog 76 #[(.int .i64 n0), (.int .i64 k1), x19_6, (.int .i64 kind2)] w_5 (.one (.int .i64)) fun (x21_8 : Int) w_7 => K (x21_8, (0 : Int)) w_7))))))))

theorem eq_spec_CountFree (n0 : Int) (k1 : Int) (kind2 : Int) (w : World) (K : (Int × Int) → World → Prop) :
    W Try.prog ty (fun _ _ _ _ => False) (bodyOf Try.f40) (fnPost Try.prog Try.f40.results.toList (.two (.int .i64) (.int .i64)) K) (frame0 [(.int .i64 n0), (.int .i64 k1), (.int .i64 kind2)] 22) w = V_spec_CountFree n0 k1 kind2 w K := by
  kernel_rfl

theorem body_spec_CountFree : Try.f40.body = some (bodyOf Try.f40) := by kernel_rfl
theorem name_spec_CountFree : (Try.f40.name == "runtime.NumGoroutine") = false := by kernel_rfl

theorem walk_spec_CountFree (n0 : Int) (k1 : Int) (kind2 : Int) {w : World} {K : (Int × Int) → World → Prop} (h : V_spec_CountFree n0 k1 kind2 w K) : Fc Try.prog 40 #[(.int .i64 n0), (.int .i64 k1), (.int .i64 kind2)] w (.two (.int .i64) (.int .i64)) K :=
  fn_ok follows (sound_none _) Try.func40 name_spec_CountFree body_spec_CountFree Try.ntmps40 [(.int .i64 n0), (.int .i64 k1), (.int .i64 kind2)] (Eq.mpr (eq_spec_CountFree n0 k1 kind2 w K) h)

-- uses S8CF
theorem c_spec_CountFree {n k kind : Int} {w : World} {K : Int × Int → World → Prop} (_ : I64 n) (_ : I64 k) (_ : I64 kind)
    (hK : ∀ w', Below w.heap.size w w' → K ((countFree n k kind).1, (countFree n k kind).2) w') : Fc Try.prog F_spec_CountFree #[.int .i64 n, .int .i64 k, .int .i64 kind] w (.two (.int .i64) (.int .i64)) K := by
  unfold countFree at hK
  have k1 := hK w (Below.refl _ _)
  refine walk_spec_CountFree _ _ _ (c_spec_l01In _ _ _ ⟨fun h => by rwa [if_neg (fun hh => notd_t h hh.1)] at k1, fun h1 => c_spec_l07Code (slI_nil w) ?_⟩)
  have h1 := notd_f h1
  have hnil := isPart_nil k
  by_cases h : IsPart k [] ∧ 0 ≤ kind ∧ kind ≤ 2
  · rw [if_pos h]
    have h2 := hnil.1 h.1
    have hnn : ((n.toNat : Nat) : Int) = n := by omega
    refine ⟨fun e => absurd rfl (ne_t e), fun _ => nilI fun b v w1 hb hbel ho => ?_⟩
    have main := c_spec_l07Count (k := k) (kind := kind) (n := n.toNat) (by omega) (by omega) n.toNat [] v w1
    rw [hnn] at main
    refine main _ (by simp) (own_slI ho (by simp)) fun w2 hb2 => ?_
    have := hK w2 (hbel.trans (hb2.mono hbel.size))
    rw [if_pos ⟨h1, h2, h.2⟩] at this
    exact this
  · rw [if_neg h]
    rw [if_neg (fun hh => h ⟨hnil.2 hh.2.1, hh.2.2⟩)] at k1
    exact ⟨fun _ => k1, fun e => absurd (ne_f e) (by omega)⟩

end Go.Proofs.Ytdnofmicjgppnaa
