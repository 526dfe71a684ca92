/- The reading of impl_CountFree_1, and its contract. No condition. -/
import Derived.Test.YtdnofmicjgppnaaTy
import Derived.Test.YtdnofmicjgppnaaS8CF
import Derived.Test.YtdnofmicjgppnaaFimplUsizeS
namespace Go.Proofs.Ytdnofmicjgppnaa
open Go Go.RowKit Eng Mem
set_option linter.unusedVariables false
set_option maxRecDepth 100000
def V_impl_CountFree_1 (part0 : Value) (x1 : Value) (x2 : Value) (w : World) (K : Bool → World → Prop) : Prop :=
  (∀ w_1, Drew w w_1 → (QSub Try.prog (Instr.loadAt 2 x1) w_1 (.int .i64) fun (x7_2 : Int) => (Fc Try.prog 80 #[part0] w_1 (.one (.int .i64)) fun (x6_4 : Int) w_3 => (Keeps w_1 w_3 ((((x6_4 == x7_2) = true → (QSub Try.prog (Instr.loadAt 2 x2) w_3 (.int .i64) fun (x9_5 : Int) => (PrU Try.prog (Instr.storeAt 2 x2 (.int .i64 (IntKind.i64.wrap (x9_5 + (1 : Int))))) w_3 fun w_6 => K true w_6))) ∧ ((x6_4 == x7_2) = false → K true w_3)))))))

theorem eq_impl_CountFree_1 (part0 : Value) (x1 : Value) (x2 : Value) (w : World) (K : Bool → World → Prop) :
    W Try.prog ty (fun _ _ _ _ => False) (bodyOf Try.f79) (fnPost Try.prog Try.f79.results.toList (.one .bool) K) (frame0 [part0, x1, x2] 11) w = V_impl_CountFree_1 part0 x1 x2 w K := by
  kernel_rfl

theorem body_impl_CountFree_1 : Try.f79.body = some (bodyOf Try.f79) := by kernel_rfl
theorem name_impl_CountFree_1 : (Try.f79.name == "runtime.NumGoroutine") = false := by kernel_rfl

theorem walk_impl_CountFree_1 (part0 : Value) (x1 : Value) (x2 : Value) {w : World} {K : Bool → World → Prop} (h : V_impl_CountFree_1 part0 x1 x2 w K) : Fc Try.prog 79 #[part0, x1, x2] w (.one .bool) K :=
  fn_ok follows (sound_none _) Try.func79 name_impl_CountFree_1 body_impl_CountFree_1 Try.ntmps79 [part0, x1, x2] (Eq.mpr (eq_impl_CountFree_1 part0 x1 x2 w K) h)

-- uses S8CF
theorem c_impl_CountFree_1 {p : Value} {bm : Nat} {part : Value} {l : List Int} {n m : Int} {w : World} {K : Bool → World → Prop} (hp : Cell w p (.int .i64 n)) (hm : Blk w bm [.int .i64 m] tI) (hs : SlI w part l) (h0 : 0 ≤ m) (h1 : m ≤ 1000000000)
    (hK : ∀ w', Mod [bm] w w' → Blk w' bm [.int .i64 (m + if (l.length : Int) = n then 1 else 0)] tI → K true w') : Fc Try.prog F_impl_CountFree_1 #[part, p, ptr bm 0] w (.one .bool) K := by
  refine walk_impl_CountFree_1 _ _ _ ?_
  intro w1 hd
  have hb := hd.below w.heap.size
  have hm1 : Blk w1 bm [.int .i64 m] tI := below_at hb hm (at_lt hm)
  refine ld (k := .int .i64) yI (hp.keep hb) (c_impl_sizeS (hs.keep hb) ⟨Below.refl _ _, fun he => ?_, fun hne => ?_⟩)
  · refine ld (k := .int .i64) yI (row_all (cs := [_]) hm1) (st yI hm1 (by simp) rfl fun w2 m2 s2 h2 => hK w2 ((mod_of_below hb _).trans m2) ?_)
    rw [wrap_small (by omega) (by omega)] at h2
    rw [if_pos (eq_t he)]
    exact h2
  · refine hK w1 (mod_of_below hb _) ?_
    rw [if_neg (eq_f hne), Int.add_zero]
    exact hm1

end Go.Proofs.Ytdnofmicjgppnaa
