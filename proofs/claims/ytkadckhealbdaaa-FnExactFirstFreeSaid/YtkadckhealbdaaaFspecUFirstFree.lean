/- The reading of spec_FirstFree, and its contract. No condition. -/
import Derived.Test.YtkadckhealbdaaaTy
import Derived.Test.YtkadckhealbdaaaS8Find
import Derived.Test.YtkadckhealbdaaaFspecUl01In
import Derived.Test.YtkadckhealbdaaaFspecUl07Code
import Derived.Test.YtkadckhealbdaaaFspecUl07Find
namespace Go.Proofs.Ytkadckhealbdaaa
open Go Go.RowKit Eng Mem
set_option linter.unusedVariables false
set_option maxRecDepth 100000
def V_spec_FirstFree (n0 : Int) (k1 : Int) (kind2 : Int) (w : World) (K : (Value × Int) → World → Prop) : Prop :=
  (Fc Try.prog 43 #[(.int .i64 n0), (.int .i64 (0 : Int)), (.int .i64 (14 : Int))] w (.one .bool) fun (x11_2 : Bool) w_1 => (((!x11_2) = true → K (((.slice none 0 0) : Value), (2 : Int)) w_1) ∧ ((!x11_2) = false → (Fc Try.prog 52 #[(.int .i64 k1), (.slice none 0 0), (.int .i64 kind2)] w_1 (.one (.int .i64)) fun (x16_4 : Int) w_3 => (((x16_4 != (0 : Int)) = true → K (((.slice none 0 0) : Value), (2 : Int)) w_3) ∧ ((x16_4 != (0 : Int)) = false → (Pr Try.prog (Instr.buildSlice 31 0 #[]) w_3 (.one .any) fun (x22_6 : Value) w_5 => (Fc Try.prog 53 #[(.int .i64 n0), (.int .i64 k1), x22_6, (.int .i64 kind2)] w_5 (.two .any .bool) fun (x24_8 : Value × Bool) w_7 => (((!x24_8.2) = true → K (((.slice none 0 0) : Value), (4 : Int)) w_7) ∧ ((!x24_8.2) = false → K ((x24_8.1 : Value), (0 : Int)) w_7))))))))))

theorem eq_spec_FirstFree (n0 : Int) (k1 : Int) (kind2 : Int) (w : World) (K : (Value × Int) → World → Prop) :
    W Try.prog ty (fun _ _ _ _ => False) (bodyOf Try.f18) (fnPost Try.prog Try.f18.results.toList (.two .any (.int .i64)) K) (frame0 [(.int .i64 n0), (.int .i64 k1), (.int .i64 kind2)] 30) w = V_spec_FirstFree n0 k1 kind2 w K := by
  kernel_rfl

theorem body_spec_FirstFree : Try.f18.body = some (bodyOf Try.f18) := by kernel_rfl
theorem name_spec_FirstFree : (Try.f18.name == "runtime.NumGoroutine") = false := by kernel_rfl

theorem walk_spec_FirstFree (n0 : Int) (k1 : Int) (kind2 : Int) {w : World} {K : (Value × Int) → World → Prop} (h : V_spec_FirstFree n0 k1 kind2 w K) : Fc Try.prog 18 #[(.int .i64 n0), (.int .i64 k1), (.int .i64 kind2)] w (.two .any (.int .i64)) K :=
  fn_ok follows (sound_none _) Try.func18 name_spec_FirstFree body_spec_FirstFree Try.ntmps18 [(.int .i64 n0), (.int .i64 k1), (.int .i64 kind2)] (Eq.mpr (eq_spec_FirstFree n0 k1 kind2 w K) h)

-- uses S8Find
theorem c_spec_FirstFree {n k kind : Int} {w : World} {K : Value × Int → World → Prop} (_ : I64 n) (_ : I64 k) (_ : I64 kind)
    (hK : ∀ w' v, Below w.heap.size w w' → MyI w.heap.size w'.heap.size w' v (firstFree n k kind).1 → K (v, (firstFree n k kind).2) w') : Fc Try.prog F_spec_FirstFree #[.int .i64 n, .int .i64 k, .int .i64 kind] w (.two .any (.int .i64)) K := by
  unfold firstFree at hK
  have k1 := fun v => hK w v (Below.refl _ _)
  refine walk_spec_FirstFree _ _ _ (c_spec_l01In _ _ _ ⟨fun h => by rw [if_neg (fun hh => notd_t h hh.1)] at k1; exact k1 _ (myI_nil _ _ _), fun h1 => c_spec_l07Code (slI_nil w) ?_⟩)
  have h1 := notd_f h1
  have hnil := isPart_nil k
  by_cases h : IsPart k [] ∧ 0 ≤ kind ∧ kind ≤ 2
  · rw [if_pos h]
    have h2 := hnil.1 h.1
    have hnn : ((n.toNat : Nat) : Int) = n := by omega
    refine ⟨fun e => absurd rfl (ne_t e), fun _ => nilI fun b v w1 hb hbel ho => ?_⟩
    have hs := hbel.size
    have main := c_spec_l07Find (k := k) (kind := kind) (n := n.toNat) w.heap.size (by omega) (by omega) n.toNat [] v w1
    rw [hnn] at main
    refine main _ (by simp) hs (own_my ho (by simp) (by omega) ho.lt) (fun w2 v' p hb2 hf hp => ⟨fun h => Bool.noConfusion h, fun _ => ?_⟩) fun w2 hb2 hf => ⟨fun _ => ?_, fun h => Bool.noConfusion h⟩
    · have := hK w2 v' (hbel.trans (hb2.mono hs))
      rw [if_pos ⟨h1, h2, h.2⟩, hf] at this
      exact this hp
    · have := hK w2 (.slice none 0 0) (hbel.trans (hb2.mono hs))
      rw [if_pos ⟨h1, h2, h.2⟩, hf] at this
      exact this (myI_nil _ _ _)
  · rw [if_neg h]
    rw [if_neg (fun hh => h ⟨hnil.2 hh.2.1, hh.2.2⟩)] at k1
    exact ⟨fun _ => k1 _ (myI_nil _ _ _), fun e => absurd (ne_f e) (by omega)⟩

end Go.Proofs.Ytkadckhealbdaaa
