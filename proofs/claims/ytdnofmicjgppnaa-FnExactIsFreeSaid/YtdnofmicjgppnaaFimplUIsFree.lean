/- The reading of impl_IsFree, and its contract. No condition. -/
import Derived.Test.YtdnofmicjgppnaaTy
import Derived.Test.YtdnofmicjgppnaaS8Cnt
import Derived.Test.YtdnofmicjgppnaaFimplUfaults
import Derived.Test.YtdnofmicjgppnaaFimplUpartCode
namespace Go.Proofs.Ytdnofmicjgppnaa
open Go Go.RowKit Eng Mem
set_option linter.unusedVariables false
set_option maxRecDepth 100000
def V_impl_IsFree (k0 : Int) (part1 : Value) (kind2 : Int) (w : World) (K : (Bool × Int) → World → Prop) : Prop :=
  (Fc Try.prog 70 #[(.int .i64 k0), part1, (.int .i64 kind2)] w (.one (.int .i64)) fun (x12_2 : Int) w_1 => (((x12_2 != (0 : Int)) = true → K (false, x12_2) w_1) ∧ ((x12_2 != (0 : Int)) = false → (Fc Try.prog 72 #[part1, (.int .i64 kind2)] w_1 (.one .any) fun (x18_4 : Value) w_3 => (QAll Try.prog (Builtin.len_ #[74] 3 #[x18_4]) (.int .i64) fun (x19_5 : Int) => K ((x19_5 == (0 : Int)), (0 : Int)) w_3)))))

theorem eq_impl_IsFree (k0 : Int) (part1 : Value) (kind2 : Int) (w : World) (K : (Bool × Int) → World → Prop) :
    W Try.prog ty (fun _ _ _ _ => False) (bodyOf Try.f37) (fnPost Try.prog Try.f37.results.toList (.two .bool (.int .i64)) K) (frame0 [(.int .i64 k0), part1, (.int .i64 kind2)] 21) w = V_impl_IsFree k0 part1 kind2 w K := by
  kernel_rfl

theorem body_impl_IsFree : Try.f37.body = some (bodyOf Try.f37) := by kernel_rfl
theorem name_impl_IsFree : (Try.f37.name == "runtime.NumGoroutine") = false := by kernel_rfl

theorem walk_impl_IsFree (k0 : Int) (part1 : Value) (kind2 : Int) {w : World} {K : (Bool × Int) → World → Prop} (h : V_impl_IsFree k0 part1 kind2 w K) : Fc Try.prog 37 #[(.int .i64 k0), part1, (.int .i64 kind2)] w (.two .bool (.int .i64)) K :=
  fn_ok follows (sound_none _) Try.func37 name_impl_IsFree body_impl_IsFree Try.ntmps37 [(.int .i64 k0), part1, (.int .i64 kind2)] (Eq.mpr (eq_impl_IsFree k0 part1 kind2 w K) h)

-- uses S8Cnt
theorem c_impl_IsFree {k kind : Int} {a : Value} {l : List Int} {w : World} {K : Bool × Int → World → Prop} (_ : I64 k) (ha : ArgI w a l) (_ : I64 kind)
    (hK : ∀ w', Below w.heap.size w w' → K ((freeF k l kind).1, (freeF k l kind).2) w') : Fc Try.prog F_impl_IsFree #[.int .i64 k, a, .int .i64 kind] w (.two .bool (.int .i64)) K := by
  unfold freeF at hK
  refine walk_impl_IsFree _ _ _ (c_impl_partCode ha.sl fun w1 hb1 => ?_)
  by_cases h : IsPart k l ∧ 0 ≤ kind ∧ kind ≤ 2
  · rw [if_pos h] at hK ⊢
    have hl := h.1.2.2.1
    refine ⟨fun e => absurd rfl (ne_t e), fun _ => c_impl_faults (ha.sl.keep hb1) (by omega) h.2 fun w2 v b hb2 hB hm => hm.len_eq ?_⟩
    have := hK w2 (hb1.trans (hb2.mono hb1.size))
    have e : (((faR l kind 0 l.length).length : Int) == 0) = decide (faR l kind 0 l.length = []) := by
      rw [Bool.eq_iff_iff]
      simp
    rw [e]
    exact this
  · rw [if_neg h] at hK ⊢
    exact ⟨fun _ => hK w1 hb1, fun e => absurd (ne_f e) (by omega)⟩

end Go.Proofs.Ytdnofmicjgppnaa
