/- The reading of spec_ColoursNext, and its contract. No condition. -/
import Derived.Test.YtkadckhealbdaaaTy
import Derived.Test.YtkadckhealbdaaaS8App
import Derived.Test.YtkadckhealbdaaaFspecUl07Code
import Derived.Test.YtkadckhealbdaaaFspecUl07Fault
import Derived.Test.YtkadckhealbdaaaFspecUl07Next
namespace Go.Proofs.Ytkadckhealbdaaa
open Go Go.RowKit Eng Mem
set_option linter.unusedVariables false
set_option maxRecDepth 100000
def V_spec_ColoursNext (k0 : Int) (part1 : Value) (kind2 : Int) (w : World) (K : (Value × Int) → World → Prop) : Prop :=
  (Fc Try.prog 52 #[(.int .i64 k0), part1, (.int .i64 kind2)] w (.one (.int .i64)) fun (x12_2 : Int) w_1 => (((x12_2 == (0 : Int)) = true → (QAll Try.prog (Builtin.len_ #[31] 3 #[part1]) (.int .i64) fun (x17_3 : Int) => (((x17_3 == (40 : Int)) = true → ((((2 : Int) != (0 : Int)) = true → K (((.slice none 0 0) : Value), (2 : Int)) w_1) ∧ (((2 : Int) != (0 : Int)) = false → (Fc Try.prog 59 #[part1, (.int .i64 kind2), (.int .i64 (1 : Int))] w_1 (.one .any) fun (x25_5 : Value) w_4 => (QAll Try.prog (Builtin.len_ #[31] 3 #[x25_5]) (.int .i64) fun (x26_6 : Int) => (((decide (x26_6 > (0 : Int))) = true → K (((.slice none 0 0) : Value), (5 : Int)) w_4) ∧ ((decide (x26_6 > (0 : Int))) = false → (Fc Try.prog 60 #[(.int .i64 k0), part1, (.int .i64 kind2)] w_4 (.one .any) fun (x31_8 : Value) w_7 => K ((x31_8 : Value), (0 : Int)) w_7)))))))) ∧ ((x17_3 == (40 : Int)) = false → (((x12_2 != (0 : Int)) = true → K (((.slice none 0 0) : Value), x12_2) w_1) ∧ ((x12_2 != (0 : Int)) = false → (Fc Try.prog 59 #[part1, (.int .i64 kind2), (.int .i64 (1 : Int))] w_1 (.one .any) fun (x25_10 : Value) w_9 => (QAll Try.prog (Builtin.len_ #[31] 3 #[x25_10]) (.int .i64) fun (x26_11 : Int) => (((decide (x26_11 > (0 : Int))) = true → K (((.slice none 0 0) : Value), (5 : Int)) w_9) ∧ ((decide (x26_11 > (0 : Int))) = false → (Fc Try.prog 60 #[(.int .i64 k0), part1, (.int .i64 kind2)] w_9 (.one .any) fun (x31_13 : Value) w_12 => K ((x31_13 : Value), (0 : Int)) w_12))))))))))) ∧ ((x12_2 == (0 : Int)) = false → (((x12_2 != (0 : Int)) = true → K (((.slice none 0 0) : Value), x12_2) w_1) ∧ ((x12_2 != (0 : Int)) = false → (Fc Try.prog 59 #[part1, (.int .i64 kind2), (.int .i64 (1 : Int))] w_1 (.one .any) fun (x25_15 : Value) w_14 => (QAll Try.prog (Builtin.len_ #[31] 3 #[x25_15]) (.int .i64) fun (x26_16 : Int) => (((decide (x26_16 > (0 : Int))) = true → K (((.slice none 0 0) : Value), (5 : Int)) w_14) ∧ ((decide (x26_16 > (0 : Int))) = false → (Fc Try.prog 60 #[(.int .i64 k0), part1, (.int .i64 kind2)] w_14 (.one .any) fun (x31_18 : Value) w_17 => K ((x31_18 : Value), (0 : Int)) w_17))))))))))

theorem eq_spec_ColoursNext (k0 : Int) (part1 : Value) (kind2 : Int) (w : World) (K : (Value × Int) → World → Prop) :
    W Try.prog ty (fun _ _ _ _ => False) (bodyOf Try.f23) (fnPost Try.prog Try.f23.results.toList (.two .any (.int .i64)) K) (frame0 [(.int .i64 k0), part1, (.int .i64 kind2)] 32) w = V_spec_ColoursNext k0 part1 kind2 w K := by
  kernel_rfl

theorem body_spec_ColoursNext : Try.f23.body = some (bodyOf Try.f23) := by kernel_rfl
theorem name_spec_ColoursNext : (Try.f23.name == "runtime.NumGoroutine") = false := by kernel_rfl

theorem walk_spec_ColoursNext (k0 : Int) (part1 : Value) (kind2 : Int) {w : World} {K : (Value × Int) → World → Prop} (h : V_spec_ColoursNext k0 part1 kind2 w K) : Fc Try.prog 23 #[(.int .i64 k0), part1, (.int .i64 kind2)] w (.two .any (.int .i64)) K :=
  fn_ok follows (sound_none _) Try.func23 name_spec_ColoursNext body_spec_ColoursNext Try.ntmps23 [(.int .i64 k0), part1, (.int .i64 kind2)] (Eq.mpr (eq_spec_ColoursNext k0 part1 kind2 w K) h)

-- uses S8App
theorem c_spec_ColoursNext {k kind : Int} {a : Value} {l : List Int} {w : World} {K : Value × Int → World → Prop} (_ : I64 k) (ha : ArgI w a l) (_ : I64 kind)
    (hK : ∀ w' v, Below w.heap.size w w' → MyI w.heap.size w'.heap.size w' v (nextOf k l kind).1 → K (v, (nextOf k l kind).2) w') : Fc Try.prog F_spec_ColoursNext #[.int .i64 k, a, .int .i64 kind] w (.two .any (.int .i64)) K := by
  unfold nextOf at hK
  refine walk_spec_ColoursNext _ _ _ (c_spec_l07Code ha.sl ?_)
  by_cases h : IsPart k l ∧ 0 ≤ kind ∧ kind ≤ 2
  case neg =>
    rw [if_neg h] at hK ⊢
    exact ⟨fun e => absurd (eq_t e) (by omega), fun _ => ⟨fun _ => hK w _ (Below.refl _ _) (myI_nil _ _ _), fun e => absurd (ne_f e) (by omega)⟩⟩
  rw [if_pos h] at hK ⊢
  have hl := h.1.2.2.1; have k0 := h.1.1; have k3 := h.1.2.1
  refine ⟨fun _ => lenI ha.sl ⟨fun e => ⟨fun _ => ?_, fun e => absurd (ne_f e) (by omega)⟩, fun e => ⟨fun e => absurd rfl (ne_t e), fun _ => ?_⟩⟩, fun e => absurd rfl (eq_f e)⟩
  · rw [if_pos (by have := eq_t e; omega)] at hK
    exact hK w _ (Below.refl _ _) (myI_nil _ _ _)
  have e := eq_f e
  rw [if_neg (by omega)] at hK
  refine c_spec_l07Fault ha.sl (by omega) (by omega) (by omega) fun w2 v hb2 hm => lenI hm.sl ?_
  have hs2 := hb2.size
  have ht3 := faR_triples l kind 0 l.length
  rw [show ((1 : Int) - 1).toNat = 0 from by decide, show ((l.length : Int) + 1 - 1).toNat = l.length from by omega]
  cases hc : faR l kind 0 l.length with
  | nil =>
    rw [if_pos hc] at hK
    refine ⟨fun e => absurd (dec_t e) (by simp), fun _ => c_spec_l07Next (ha.sl.keep hb2) hl (by omega) k3 fun w3 v' b hb hbel ho => ?_⟩
    have hnl := nextL_len l kind k.toNat
    exact hK w3 v' (hb2.trans (hbel.mono hs2)) (own_my ho (by show (nextL l kind k.toNat).length ≤ _; omega) (by omega) ho.lt)
  | cons t r =>
    rw [if_neg (by rw [hc]; simp)] at hK
    rw [hc] at ht3
    have := ht3 t (by simp)
    exact ⟨fun _ => hK w2 _ hb2 (myI_nil _ _ _), fun e => absurd (dec_f e) (by simp only [List.headD_cons]; omega)⟩

end Go.Proofs.Ytkadckhealbdaaa
