/- The reading of impl_CountFaults, and its contract. No condition. -/
import Derived.Test.YtdnofmicjgppnaaTy
import Derived.Test.YtdnofmicjgppnaaS8Cnt
import Derived.Test.YtdnofmicjgppnaaFimplUfaults
import Derived.Test.YtdnofmicjgppnaaFimplUpartCode
import Derived.Test.YtdnofmicjgppnaaFimplUsizeSS
namespace Go.Proofs.Ytdnofmicjgppnaa
open Go Go.RowKit Eng Mem
set_option linter.unusedVariables false
set_option maxRecDepth 100000
def V_impl_CountFaults (k0 : Int) (part1 : Value) (kind2 : Int) (w : World) (K : (Int × Int) → World → Prop) : Prop :=
  (Fc Try.prog 70 #[(.int .i64 k0), part1, (.int .i64 kind2)] w (.one (.int .i64)) fun (x12_2 : Int) w_1 => (((x12_2 != (0 : Int)) = true → K ((0 : Int), x12_2) w_1) ∧ ((x12_2 != (0 : Int)) = false → (Fc Try.prog 72 #[part1, (.int .i64 kind2)] w_1 (.one .any) fun (x18_4 : Value) w_3 => (Fc Try.prog 71 #[x18_4] w_3 (.one (.int .i64)) fun (x19_6 : Int) w_5 => K (x19_6, (0 : Int)) w_5)))))

theorem eq_impl_CountFaults (k0 : Int) (part1 : Value) (kind2 : Int) (w : World) (K : (Int × Int) → World → Prop) :
    W Try.prog ty (fun _ _ _ _ => False) (bodyOf Try.f35) (fnPost Try.prog Try.f35.results.toList (.two (.int .i64) (.int .i64)) K) (frame0 [(.int .i64 k0), part1, (.int .i64 kind2)] 20) w = V_impl_CountFaults k0 part1 kind2 w K := by
  kernel_rfl

theorem body_impl_CountFaults : Try.f35.body = some (bodyOf Try.f35) := by kernel_rfl
theorem name_impl_CountFaults : (Try.f35.name == "runtime.NumGoroutine") = false := by kernel_rfl

theorem walk_impl_CountFaults (k0 : Int) (part1 : Value) (kind2 : Int) {w : World} {K : (Int × Int) → World → Prop} (h : V_impl_CountFaults k0 part1 kind2 w K) : Fc Try.prog 35 #[(.int .i64 k0), part1, (.int .i64 kind2)] w (.two (.int .i64) (.int .i64)) K :=
  fn_ok follows (sound_none _) Try.func35 name_impl_CountFaults body_impl_CountFaults Try.ntmps35 [(.int .i64 k0), part1, (.int .i64 kind2)] (Eq.mpr (eq_impl_CountFaults k0 part1 kind2 w K) h)

-- uses S8Cnt
theorem c_impl_CountFaults {k kind : Int} {a : Value} {l : List Int} {w : World} {K : Int × Int → World → Prop} (_ : I64 k) (ha : ArgI w a l) (_ : I64 kind)
    (hK : ∀ w', Below w.heap.size w w' → K ((cntF k l kind).1, (cntF k l kind).2) w') : Fc Try.prog F_impl_CountFaults #[.int .i64 k, a, .int .i64 kind] w (.two (.int .i64) (.int .i64)) K := by
  unfold cntF at hK
  refine walk_impl_CountFaults _ _ _ (c_impl_partCode ha.sl fun w1 hb1 => ?_)
  by_cases h : IsPart k l ∧ 0 ≤ kind ∧ kind ≤ 2
  · rw [if_pos h] at hK ⊢
    have hl := h.1.2.2.1
    refine ⟨fun e => absurd rfl (ne_t e), fun _ => c_impl_faults (ha.sl.keep hb1) (by omega) h.2 fun w2 v b hb2 hB hm => c_impl_sizeSS hm (hK w2 (hb1.trans (hb2.mono hb1.size)))⟩
  · rw [if_neg h] at hK ⊢
    exact ⟨fun _ => hK w1 hb1, fun e => absurd (ne_f e) (by omega)⟩

end Go.Proofs.Ytdnofmicjgppnaa
