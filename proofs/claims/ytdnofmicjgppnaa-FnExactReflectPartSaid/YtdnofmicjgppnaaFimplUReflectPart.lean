/- The reading of impl_ReflectPart, and its contract. No condition. -/
import Derived.Test.YtdnofmicjgppnaaTy
import Derived.Test.YtdnofmicjgppnaaS7Refl
import Derived.Test.YtdnofmicjgppnaaFimplUisPart
import Derived.Test.YtdnofmicjgppnaaFslicesUCloneUint64Uint64
import Derived.Test.YtdnofmicjgppnaaFslicesUReverseUint64Uint64
namespace Go.Proofs.Ytdnofmicjgppnaa
open Go Go.RowKit Eng Mem
set_option linter.unusedVariables false
set_option maxRecDepth 100000
def V_impl_ReflectPart (k0 : Int) (part1 : Value) (w : World) (K : (Value × Int) → World → Prop) : Prop :=
  (Fc Try.prog 44 #[(.int .i64 k0), part1] w (.one .bool) fun (x9_2 : Bool) w_1 => (((!x9_2) = true → K (((.slice none 0 0) : Value), (2 : Int)) w_1) ∧ ((!x9_2) = false → (Fc Try.prog 55 #[part1] w_1 (.one .any) fun (x12_4 : Value) w_3 => (Fc Try.prog 56 #[x12_4] w_3 .unit fun (x14_6 : Unit) w_5 => K ((x12_4 : Value), (0 : Int)) w_5)))))

theorem eq_impl_ReflectPart (k0 : Int) (part1 : Value) (w : World) (K : (Value × Int) → World → Prop) :
    W Try.prog ty (fun _ _ _ _ => False) (bodyOf Try.f26) (fnPost Try.prog Try.f26.results.toList (.two .any (.int .i64)) K) (frame0 [(.int .i64 k0), part1] 16) w = V_impl_ReflectPart k0 part1 w K := by
  kernel_rfl

theorem body_impl_ReflectPart : Try.f26.body = some (bodyOf Try.f26) := by kernel_rfl
theorem name_impl_ReflectPart : (Try.f26.name == "runtime.NumGoroutine") = false := by kernel_rfl

theorem walk_impl_ReflectPart (k0 : Int) (part1 : Value) {w : World} {K : (Value × Int) → World → Prop} (h : V_impl_ReflectPart k0 part1 w K) : Fc Try.prog 26 #[(.int .i64 k0), part1] w (.two .any (.int .i64)) K :=
  fn_ok follows (sound_none _) Try.func26 name_impl_ReflectPart body_impl_ReflectPart Try.ntmps26 [(.int .i64 k0), part1] (Eq.mpr (eq_impl_ReflectPart k0 part1 w K) h)

-- uses S7Refl
theorem c_impl_ReflectPart {k : Int} {a : Value} {l : List Int} {w : World} {K : Value × Int → World → Prop} (_ : I64 k) (ha : ArgI w a l)
    (hK : ∀ w' v, Below w.heap.size w w' → MyI w.heap.size w'.heap.size w' v (reflOf k l).1 → K (v, (reflOf k l).2) w') : Fc Try.prog F_impl_ReflectPart #[.int .i64 k, a] w (.two .any (.int .i64)) K := by
  refine walk_impl_ReflectPart _ _ (c_impl_isPart ha.sl fun w1 hb1 => ?_)
  have hs1 := hb1.size
  unfold reflOf at hK
  refine ⟨fun h => ?_, fun h => ?_⟩
  · have h := notd_t h
    rw [if_neg h] at hK
    exact hK w1 _ hb1 (myI_nil _ _ _)
  · have h := notd_f h
    rw [if_pos h] at hK
    have hl := h.2.2.1
    refine c_slices_Clone_int64_int64 (ha.sl.keep hb1) (by omega) fun v w2 hb2 hm => c_slices_Reverse_int64_int64 hm fun w3 mr hm3 => ?_
    have hs2 := hb2.size; have hs3 := mr.size
    exact hK w3 v ((hb1.trans (hb2.mono hs1)).trans (mr.below (by omega) (by omega))) (hm3.mono (by omega) (by omega))

end Go.Proofs.Ytdnofmicjgppnaa
