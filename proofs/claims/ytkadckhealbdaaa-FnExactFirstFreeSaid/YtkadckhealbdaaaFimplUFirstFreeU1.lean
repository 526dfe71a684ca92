/- The reading of impl_FirstFree_1, and its contract. No condition. -/
import Derived.Test.YtkadckhealbdaaaTy
import Derived.Test.YtkadckhealbdaaaS8Find
import Derived.Test.YtkadckhealbdaaaFimplUsizeS
namespace Go.Proofs.Ytkadckhealbdaaa
open Go Go.RowKit Eng Mem
set_option linter.unusedVariables false
set_option maxRecDepth 100000
def V_impl_FirstFree_1 (part0 : Value) (x1 : Value) (x2 : Value) (w : World) (K : Bool → World → Prop) : Prop :=
  (∀ w_1, Drew w w_1 → (QSub Try.prog (Instr.loadAt 2 x1) w_1 (.int .i64) fun (x7_2 : Int) => (Fc Try.prog 58 #[part0] w_1 (.one (.int .i64)) fun (x6_4 : Int) w_3 => (Keeps w_1 w_3 ((((decide (x6_4 < x7_2)) = true → K true w_3) ∧ ((decide (x6_4 < x7_2)) = false → (PrU Try.prog (Instr.storeAt 31 x2 part0) w_3 fun w_5 => K false w_5))))))))

theorem eq_impl_FirstFree_1 (part0 : Value) (x1 : Value) (x2 : Value) (w : World) (K : Bool → World → Prop) :
    W Try.prog ty (fun _ _ _ _ => False) (bodyOf Try.f57) (fnPost Try.prog Try.f57.results.toList (.one .bool) K) (frame0 [part0, x1, x2] 10) w = V_impl_FirstFree_1 part0 x1 x2 w K := by
  kernel_rfl

theorem body_impl_FirstFree_1 : Try.f57.body = some (bodyOf Try.f57) := by kernel_rfl
theorem name_impl_FirstFree_1 : (Try.f57.name == "runtime.NumGoroutine") = false := by kernel_rfl

theorem walk_impl_FirstFree_1 (part0 : Value) (x1 : Value) (x2 : Value) {w : World} {K : Bool → World → Prop} (h : V_impl_FirstFree_1 part0 x1 x2 w K) : Fc Try.prog 57 #[part0, x1, x2] w (.one .bool) K :=
  fn_ok follows (sound_none _) Try.func57 name_impl_FirstFree_1 body_impl_FirstFree_1 Try.ntmps57 [part0, x1, x2] (Eq.mpr (eq_impl_FirstFree_1 part0 x1 x2 w K) h)

-- uses S8Find
theorem c_impl_FirstFree_1 {p : Value} {bo : Nat} {part v : Value} {l : List Int} {n : Int} {w : World} {K : Bool → World → Prop} (hp : Cell w p (.int .i64 n)) (hm : Blk w bo [v] tSI) (hs : SlI w part l)
    (hK : ∀ w', Mod [bo] w w' → Blk w' bo [if (l.length : Int) < n then v else part] tSI → K (decide ((l.length : Int) < n)) w') : Fc Try.prog F_impl_FirstFree_1 #[part, p, ptr bo 0] w (.one .bool) K := by
  refine walk_impl_FirstFree_1 _ _ _ ?_
  intro w1 hd
  have hb := hd.below w.heap.size
  have hm1 : Blk w1 bo [v] tSI := below_at hb hm (at_lt hm)
  have h1 : part.oneCell' = true := by
    obtain ⟨a, n, c, rfl, _⟩ := hs.sl
    rfl
  refine ld (k := .int .i64) yI (hp.keep hb) (c_impl_sizeS (hs.keep hb) ⟨Below.refl _ _, fun he => ?_, fun hne => ?_⟩)
  · have he := dec_t he
    have := hK w1 (mod_of_below hb _) (by rw [if_pos he]; exact hm1)
    rwa [decide_eq_true he] at this
  · have hne := dec_f hne
    refine st y1SI hm1 (by simp) h1 fun w2 m2 s2 h2 => ?_
    have := hK w2 ((mod_of_below hb _).trans m2) (by rw [if_neg hne]; exact h2)
    rwa [decide_eq_false hne] at this

end Go.Proofs.Ytkadckhealbdaaa
