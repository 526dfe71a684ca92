/- The reading of spec_FirstFault, and its contract. No condition. -/
import Derived.Test.YtdkodhonaoecnaaTy
import Derived.Test.YtdkodhonaoecnaaS7Circ
import Derived.Test.YtdkodhonaoecnaaFspecUl07Code
import Derived.Test.YtdkodhonaoecnaaFspecUl07Fault
namespace Go.Proofs.Ytdkodhonaoecnaa
open Go Go.RowKit Eng Mem
set_option linter.unusedVariables false
set_option maxRecDepth 100000
def V_spec_FirstFault (k0 : Int) (part1 : Value) (kind2 : Int) (w : World) (K : (Value × Int) → World → Prop) : Prop :=
  (Fc Try.prog 58 #[(.int .i64 k0), part1, (.int .i64 kind2)] w (.one (.int .i64)) fun (x13_2 : Int) w_1 => (((x13_2 != (0 : Int)) = true → K (((.slice none 0 0) : Value), x13_2) w_1) ∧ ((x13_2 != (0 : Int)) = false → (Fc Try.prog 79 #[part1, (.int .i64 kind2), (.int .i64 (1 : Int))] w_1 (.one .any) fun (x19_4 : Value) w_3 => (QAll Try.prog (Builtin.len_ #[25] 3 #[x19_4]) (.int .i64) fun (x21_5 : Int) => (((x21_5 == (0 : Int)) = true → K (((.slice none 0 0) : Value), (4 : Int)) w_3) ∧ ((x21_5 == (0 : Int)) = false → K ((x19_4 : Value), (0 : Int)) w_3)))))))

theorem eq_spec_FirstFault (k0 : Int) (part1 : Value) (kind2 : Int) (w : World) (K : (Value × Int) → World → Prop) :
    W Try.prog ty (fun _ _ _ _ => False) (bodyOf Try.f31) (fnPost Try.prog Try.f31.results.toList (.two .any (.int .i64)) K) (frame0 [(.int .i64 k0), part1, (.int .i64 kind2)] 24) w = V_spec_FirstFault k0 part1 kind2 w K := by
  kernel_rfl

theorem body_spec_FirstFault : Try.f31.body = some (bodyOf Try.f31) := by kernel_rfl
theorem name_spec_FirstFault : (Try.f31.name == "runtime.NumGoroutine") = false := by kernel_rfl

theorem walk_spec_FirstFault (k0 : Int) (part1 : Value) (kind2 : Int) {w : World} {K : (Value × Int) → World → Prop} (h : V_spec_FirstFault k0 part1 kind2 w K) : Fc Try.prog 31 #[(.int .i64 k0), part1, (.int .i64 kind2)] w (.two .any (.int .i64)) K :=
  fn_ok follows (sound_none _) Try.func31 name_spec_FirstFault body_spec_FirstFault Try.ntmps31 [(.int .i64 k0), part1, (.int .i64 kind2)] (Eq.mpr (eq_spec_FirstFault k0 part1 kind2 w K) h)

-- uses S7Circ
theorem c_spec_FirstFault {k kind : Int} {a : Value} {l : List Int} {w : World} {K : Value × Int → World → Prop} (_ : I64 k) (ha : ArgI w a l) (_ : I64 kind)
    (hK : ∀ w' v, Below w.heap.size w w' → MyI w.heap.size w'.heap.size w' v (firstF k l kind).1 → K (v, (firstF k l kind).2) w') : Fc Try.prog F_spec_FirstFault #[.int .i64 k, a, .int .i64 kind] w (.two .any (.int .i64)) K := by
  unfold firstF at hK
  refine walk_spec_FirstFault _ _ _ (c_spec_l07Code ha.sl ?_)
  by_cases h : IsPart k l ∧ 0 ≤ kind ∧ kind ≤ 2
  · rw [if_pos h] at hK ⊢
    have hl := h.1.2.2.1
    refine ⟨fun e => absurd rfl (ne_t e), fun _ => c_spec_l07Fault ha.sl (by omega) (by omega) (by omega) fun w2 v hb2 hm => lenI hm.sl ?_⟩
    have ht3 := faR_triples l kind 0 l.length
    rw [show ((1 : Int) - 1).toNat = 0 from by decide, show ((l.length : Int) + 1 - 1).toNat = l.length from by omega] at hm ⊢
    cases hc : faR l kind 0 l.length with
    | nil =>
      rw [hc] at hK
      exact ⟨fun _ => hK w2 _ hb2 (myI_nil _ _ _), fun e => absurd rfl (eq_f e)⟩
    | cons t r =>
      rw [hc] at hK hm ht3
      have := ht3 t (by simp)
      refine ⟨fun e => by have := eq_t e; simp only [List.headD_cons] at this; omega, fun _ => hK w2 v hb2 hm⟩
  · rw [if_neg h] at hK ⊢
    exact ⟨fun _ => hK w _ (Below.refl _ _) (myI_nil _ _ _), fun e => absurd (ne_f e) (by omega)⟩

end Go.Proofs.Ytdkodhonaoecnaa
