/- The reading of impl_GreatestFree_1, and its contract. No condition. -/
import Derived.Test.YtdkodhonaoecnaaTy
import Derived.Test.YtdkodhonaoecnaaS8Great
import Derived.Test.YtdkodhonaoecnaaFimplUsizeS
namespace Go.Proofs.Ytdkodhonaoecnaa
open Go Go.RowKit Eng Mem
set_option linter.unusedVariables false
set_option maxRecDepth 100000
def V_impl_GreatestFree_1 (part0 : Value) (x1 : Value) (w : World) (K : Bool → World → Prop) : Prop :=
  (∀ w_1, Drew w w_1 → (QSub Try.prog (Instr.loadAt 2 x1) w_1 (.int .i64) fun (x4_2 : Int) => (Fc Try.prog 63 #[part0] w_1 (.one (.int .i64)) fun (x6_4 : Int) w_3 => (Keeps w_1 w_3 ((QAll Try.prog (Builtin.max_ #[2, 2] 2 #[(.int .i64 x4_2), (.int .i64 x6_4)]) (.int .i64) fun (x7_5 : Int) => (PrU Try.prog (Instr.storeAt 2 x1 (.int .i64 x7_5)) w_3 fun w_6 => K true w_6)))))))

theorem eq_impl_GreatestFree_1 (part0 : Value) (x1 : Value) (w : World) (K : Bool → World → Prop) :
    W Try.prog ty (fun _ _ _ _ => False) (bodyOf Try.f62) (fnPost Try.prog Try.f62.results.toList (.one .bool) K) (frame0 [part0, x1] 8) w = V_impl_GreatestFree_1 part0 x1 w K := by
  kernel_rfl

theorem body_impl_GreatestFree_1 : Try.f62.body = some (bodyOf Try.f62) := by kernel_rfl
theorem name_impl_GreatestFree_1 : (Try.f62.name == "runtime.NumGoroutine") = false := by kernel_rfl

theorem walk_impl_GreatestFree_1 (part0 : Value) (x1 : Value) {w : World} {K : Bool → World → Prop} (h : V_impl_GreatestFree_1 part0 x1 w K) : Fc Try.prog 62 #[part0, x1] w (.one .bool) K :=
  fn_ok follows (sound_none _) Try.func62 name_impl_GreatestFree_1 body_impl_GreatestFree_1 Try.ntmps62 [part0, x1] (Eq.mpr (eq_impl_GreatestFree_1 part0 x1 w K) h)

-- uses S8Great
theorem c_impl_GreatestFree_1 {bm : Nat} {part : Value} {l : List Int} {m : Nat} {w : World} {K : Bool → World → Prop} (hm : Blk w bm [.int .i64 m] tI) (hs : SlI w part l)
    (hK : ∀ w', Mod [bm] w w' → Blk w' bm [.int .i64 (max m l.length : Nat)] tI → K true w') : Fc Try.prog F_impl_GreatestFree_1 #[part, ptr bm 0] w (.one .bool) K := by
  refine walk_impl_GreatestFree_1 _ _ ?_
  intro w1 hd
  have hb := hd.below w.heap.size
  have hm1 : Blk w1 bm [.int .i64 m] tI := below_at hb hm (at_lt hm)
  refine ld (k := .int .i64) yI (row_all (cs := [_]) hm1) (c_impl_sizeS (hs.keep hb) ⟨Below.refl _ _, mx (st yI hm1 (by simp) rfl fun w2 m2 s2 h2 => hK w2 ((mod_of_below hb _).trans m2) ?_)⟩)
  have e : (if (l.length : Int) > m then (l.length : Int) else m) = ((max m l.length : Nat) : Int) := by split <;> omega
  rw [e] at h2
  exact h2

end Go.Proofs.Ytdkodhonaoecnaa
