/- The reading of impl_FirstFault, and its contract. No condition. -/
import Derived.Test.YtdkodhonaoecnaaTy
import Derived.Test.YtdkodhonaoecnaaS7Circ
import Derived.Test.YtdkodhonaoecnaaFimplUfaults
import Derived.Test.YtdkodhonaoecnaaFimplUpartCode
namespace Go.Proofs.Ytdkodhonaoecnaa
open Go Go.RowKit Eng Mem
set_option linter.unusedVariables false
set_option maxRecDepth 100000
def V_impl_FirstFault (k0 : Int) (part1 : Value) (kind2 : Int) (w : World) (K : (Value × Int) → World → Prop) : Prop :=
  (Fc Try.prog 80 #[(.int .i64 k0), part1, (.int .i64 kind2)] w (.one (.int .i64)) fun (x13_2 : Int) w_1 => (((x13_2 != (0 : Int)) = true → K (((.slice none 0 0) : Value), x13_2) w_1) ∧ ((x13_2 != (0 : Int)) = false → (Fc Try.prog 81 #[part1, (.int .i64 kind2)] w_1 (.one .any) fun (x19_4 : Value) w_3 => (QAll Try.prog (Builtin.len_ #[55] 3 #[x19_4]) (.int .i64) fun (x21_5 : Int) => (((x21_5 == (0 : Int)) = true → K (((.slice none 0 0) : Value), (4 : Int)) w_3) ∧ ((x21_5 == (0 : Int)) = false → (QAll Try.prog (Instr.indexAt 55 x19_4 (.int .i64 (0 : Int))) .any fun (x24_6 : Value) => (QSub Try.prog (Instr.loadAt 25 x24_6) w_3 .any fun (x25_7 : Value) => K ((x25_7 : Value), (0 : Int)) w_3)))))))))

theorem eq_impl_FirstFault (k0 : Int) (part1 : Value) (kind2 : Int) (w : World) (K : (Value × Int) → World → Prop) :
    W Try.prog ty (fun _ _ _ _ => False) (bodyOf Try.f32) (fnPost Try.prog Try.f32.results.toList (.two .any (.int .i64)) K) (frame0 [(.int .i64 k0), part1, (.int .i64 kind2)] 26) w = V_impl_FirstFault k0 part1 kind2 w K := by
  kernel_rfl

theorem body_impl_FirstFault : Try.f32.body = some (bodyOf Try.f32) := by kernel_rfl
theorem name_impl_FirstFault : (Try.f32.name == "runtime.NumGoroutine") = false := by kernel_rfl

theorem walk_impl_FirstFault (k0 : Int) (part1 : Value) (kind2 : Int) {w : World} {K : (Value × Int) → World → Prop} (h : V_impl_FirstFault k0 part1 kind2 w K) : Fc Try.prog 32 #[(.int .i64 k0), part1, (.int .i64 kind2)] w (.two .any (.int .i64)) K :=
  fn_ok follows (sound_none _) Try.func32 name_impl_FirstFault body_impl_FirstFault Try.ntmps32 [(.int .i64 k0), part1, (.int .i64 kind2)] (Eq.mpr (eq_impl_FirstFault k0 part1 kind2 w K) h)

-- uses S7Circ
theorem c_impl_FirstFault {k kind : Int} {a : Value} {l : List Int} {w : World} {K : Value × Int → World → Prop} (_ : I64 k) (ha : ArgI w a l) (_ : I64 kind)
    (hK : ∀ w' v, Below w.heap.size w w' → MyI w.heap.size w'.heap.size w' v (firstF k l kind).1 → K (v, (firstF k l kind).2) w') : Fc Try.prog F_impl_FirstFault #[.int .i64 k, a, .int .i64 kind] w (.two .any (.int .i64)) K := by
  unfold firstF at hK
  refine walk_impl_FirstFault _ _ _ (c_impl_partCode ha.sl fun w1 hb1 => ?_)
  by_cases h : IsPart k l ∧ 0 ≤ kind ∧ kind ≤ 2
  · rw [if_pos h] at hK ⊢
    have hl := h.1.2.2.1
    refine ⟨fun e => absurd rfl (ne_t e), fun _ => c_impl_faults (ha.sl.keep hb1) (by omega) h.2 fun w2 v b hb2 hB hm => hm.len_eq ?_⟩
    have hb := hb1.trans (hb2.mono hb1.size)
    have ht3 := faR_triples l kind 0 l.length
    cases hc : faR l kind 0 l.length with
    | nil =>
      rw [hc] at hK
      exact ⟨fun _ => hK w2 _ hb (myI_nil _ _ _), fun e => absurd rfl (eq_f e)⟩
    | cons t r =>
      rw [hc] at hK hm ht3
      refine ⟨fun e => by have := eq_t e; simp at this; omega, fun _ => ?_⟩
      obtain ⟨vs, ho, hi⟩ := hm
      have hvl : vs.length = (t :: r).length := by have := ho.len; omega
      have h0 : 0 < vs.length := by rw [hvl]; simp
      obtain ⟨c, hc1, hu⟩ := hi 0 vs[0] t (by simp [h0]) rfl
      refine ixS ySSI ho.sl (by omega) (by simpa using h0) fun p hp => ld (k := .any) (x := vs[0]) y1SI (hp [vs[0]] fun j hj => ?_) ?_
      · have : j = 0 := by simp at hj; exact hj
        subst this
        simp [h0]
      · have hs1 := hb1.size
        exact hK w2 _ hb (own_my hu (by have := ht3 t (by simp); show t.length ≤ _; omega) (by omega) hu.lt)
  · rw [if_neg h] at hK ⊢
    exact ⟨fun _ => hK w1 _ hb1 (myI_nil _ _ _), fun e => absurd (ne_f e) (by omega)⟩

end Go.Proofs.Ytdkodhonaoecnaa
