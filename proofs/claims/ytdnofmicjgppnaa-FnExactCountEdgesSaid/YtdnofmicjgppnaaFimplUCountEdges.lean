/- The reading of impl_CountEdges, and its contract. No condition. -/
import Derived.Test.YtdnofmicjgppnaaTy
import Derived.Test.YtdnofmicjgppnaaS7Refl
import Derived.Test.YtdnofmicjgppnaaFimplUColouringUcode
import Derived.Test.YtdnofmicjgppnaaFimplUColouringUcounts
import Derived.Test.YtdnofmicjgppnaaFimplUalways
namespace Go.Proofs.Ytdnofmicjgppnaa
open Go Go.RowKit Eng Mem
set_option linter.unusedVariables false
set_option maxRecDepth 100000
def V_impl_CountEdges (x0 : Value) (w : World) (K : (Value × Int) → World → Prop) : Prop :=
  (Pr Try.prog (Instr.box 31 x0) w (.one .any) fun (x1_2 : Value) w_1 => (Fc Try.prog 59 #[x1_2, (.func (.func 60) #[] #[])] w_1 (.one (.int .i64)) fun (x5_4 : Int) w_3 => (((x5_4 != (0 : Int)) = true → K (((.slice none 0 0) : Value), x5_4) w_3) ∧ ((x5_4 != (0 : Int)) = false → (Fc Try.prog 61 #[x1_2] w_3 (.one .any) fun (x9_6 : Value) w_5 => K ((x9_6 : Value), (0 : Int)) w_5)))))

theorem eq_impl_CountEdges (x0 : Value) (w : World) (K : (Value × Int) → World → Prop) :
    W Try.prog ty (fun _ _ _ _ => False) (bodyOf Try.f29) (fnPost Try.prog Try.f29.results.toList (.two .any (.int .i64)) K) (frame0 [x0] 10) w = V_impl_CountEdges x0 w K := by
  kernel_rfl

theorem body_impl_CountEdges : Try.f29.body = some (bodyOf Try.f29) := by kernel_rfl
theorem name_impl_CountEdges : (Try.f29.name == "runtime.NumGoroutine") = false := by kernel_rfl

theorem walk_impl_CountEdges (x0 : Value) {w : World} {K : (Value × Int) → World → Prop} (h : V_impl_CountEdges x0 w K) : Fc Try.prog 29 #[x0] w (.two .any (.int .i64)) K :=
  fn_ok follows (sound_none _) Try.func29 name_impl_CountEdges body_impl_CountEdges Try.ntmps29 [x0] (Eq.mpr (eq_impl_CountEdges x0 w K) h)

-- uses S7Refl
theorem c_impl_CountEdges {c : Col} {w : World} {K : Value × Int → World → Prop} (hc : c.Ok)
    (hK : ∀ w' v, Below w.heap.size w w' → MyI w.heap.size w'.heap.size w' v (countE c).1 → K (v, (countE c).2) w') : Fc Try.prog F_impl_CountEdges #[c.val] w (.two .any (.int .i64)) K := by
  unfold countE at hK
  refine walk_impl_CountEdges _ (col_box fun b w1 n1 hx => c_impl_Colouring_code true hc hx (fun _ w' K' hb' hk => cv rfl (c_impl_always (hk _ (Below.refl _ _)))) fun w2 hb2 => ?_)
  have hb := n1.below.trans (hb2.mono n1.below.size)
  by_cases h : c.Is
  · rw [if_pos h] at hK ⊢
    refine ⟨fun h => absurd rfl (ne_t h), fun _ => c_impl_Colouring_counts hc h (hx.keep hb2) fun w3 v hb3 hm => ?_⟩
    have hs := hb.size
    exact hK w3 v (hb.trans (hb3.mono hs)) (hm.mono hs (Nat.le_refl _))
  · rw [if_neg h] at hK ⊢
    exact ⟨fun _ => hK w2 _ hb (myI_nil _ _ _), fun h => absurd (ne_f h) (by omega)⟩

end Go.Proofs.Ytdnofmicjgppnaa
