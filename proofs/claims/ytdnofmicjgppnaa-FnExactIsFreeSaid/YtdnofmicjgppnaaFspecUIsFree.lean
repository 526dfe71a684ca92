/- The reading of spec_IsFree, and its contract. No condition. -/
import Derived.Test.YtdnofmicjgppnaaTy
import Derived.Test.YtdnofmicjgppnaaS8Cnt
import Derived.Test.YtdnofmicjgppnaaFspecUl07Code
import Derived.Test.YtdnofmicjgppnaaFspecUl07Fault
namespace Go.Proofs.Ytdnofmicjgppnaa
open Go Go.RowKit Eng Mem
set_option linter.unusedVariables false
set_option maxRecDepth 100000
def V_spec_IsFree (k0 : Int) (part1 : Value) (kind2 : Int) (w : World) (K : (Bool × Int) → World → Prop) : Prop :=
  (Fc Try.prog 42 #[(.int .i64 k0), part1, (.int .i64 kind2)] w (.one (.int .i64)) fun (x12_2 : Int) w_1 => (((x12_2 != (0 : Int)) = true → K (false, x12_2) w_1) ∧ ((x12_2 != (0 : Int)) = false → (Fc Try.prog 73 #[part1, (.int .i64 kind2), (.int .i64 (1 : Int))] w_1 (.one .any) fun (x18_4 : Value) w_3 => (QAll Try.prog (Builtin.len_ #[22] 3 #[x18_4]) (.int .i64) fun (x19_5 : Int) => K ((x19_5 == (0 : Int)), (0 : Int)) w_3)))))

theorem eq_spec_IsFree (k0 : Int) (part1 : Value) (kind2 : Int) (w : World) (K : (Bool × Int) → World → Prop) :
    W Try.prog ty (fun _ _ _ _ => False) (bodyOf Try.f36) (fnPost Try.prog Try.f36.results.toList (.two .bool (.int .i64)) K) (frame0 [(.int .i64 k0), part1, (.int .i64 kind2)] 21) w = V_spec_IsFree k0 part1 kind2 w K := by
  kernel_rfl

theorem body_spec_IsFree : Try.f36.body = some (bodyOf Try.f36) := by kernel_rfl
theorem name_spec_IsFree : (Try.f36.name == "runtime.NumGoroutine") = false := by kernel_rfl

theorem walk_spec_IsFree (k0 : Int) (part1 : Value) (kind2 : Int) {w : World} {K : (Bool × Int) → World → Prop} (h : V_spec_IsFree k0 part1 kind2 w K) : Fc Try.prog 36 #[(.int .i64 k0), part1, (.int .i64 kind2)] w (.two .bool (.int .i64)) K :=
  fn_ok follows (sound_none _) Try.func36 name_spec_IsFree body_spec_IsFree Try.ntmps36 [(.int .i64 k0), part1, (.int .i64 kind2)] (Eq.mpr (eq_spec_IsFree k0 part1 kind2 w K) h)

-- uses S8Cnt
theorem c_spec_IsFree {k kind : Int} {a : Value} {l : List Int} {w : World} {K : Bool × Int → World → Prop} (_ : I64 k) (ha : ArgI w a l) (_ : I64 kind)
    (hK : ∀ w', Below w.heap.size w w' → K ((freeF k l kind).1, (freeF k l kind).2) w') : Fc Try.prog F_spec_IsFree #[.int .i64 k, a, .int .i64 kind] w (.two .bool (.int .i64)) K := by
  unfold freeF at hK
  refine walk_spec_IsFree _ _ _ (c_spec_l07Code ha.sl ?_)
  by_cases h : IsPart k l ∧ 0 ≤ kind ∧ kind ≤ 2
  · rw [if_pos h] at hK ⊢
    have hl := h.1.2.2.1
    refine ⟨fun e => absurd rfl (ne_t e), fun _ => c_spec_l07Fault ha.sl (by omega) (by omega) (by omega) fun w2 v hb2 hm => lenI hm.sl ?_⟩
    have := hK w2 hb2
    rw [show ((1 : Int) - 1).toNat = 0 from by decide, show ((l.length : Int) + 1 - 1).toNat = l.length from by omega]
    have e : ((((faR l kind 0 l.length).headD []).length : Int) == 0) = decide (faR l kind 0 l.length = []) := by
      have ht := faR_triples l kind 0 l.length
      cases hc : faR l kind 0 l.length with
      | nil => rfl
      | cons t r =>
        rw [hc] at ht
        have := ht t (by simp)
        simp [this]
    rw [e]
    exact this
  · rw [if_neg h] at hK ⊢
    exact ⟨fun _ => hK w (Below.refl _ _), fun e => absurd (ne_f e) (by omega)⟩

end Go.Proofs.Ytdnofmicjgppnaa
