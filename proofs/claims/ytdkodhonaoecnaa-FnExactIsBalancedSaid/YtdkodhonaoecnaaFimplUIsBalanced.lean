/- The reading of impl_IsBalanced, and its contract. No condition. -/
import Derived.Test.YtdkodhonaoecnaaTy
import Derived.Test.YtdkodhonaoecnaaS9Bal
import Derived.Test.YtdkodhonaoecnaaFimplUColouringUcode
import Derived.Test.YtdkodhonaoecnaaFimplUColouringUisBalanced
import Derived.Test.YtdkodhonaoecnaaFimplUalways
namespace Go.Proofs.Ytdkodhonaoecnaa
open Go Go.RowKit Eng Mem
set_option linter.unusedVariables false
set_option maxRecDepth 100000
def V_impl_IsBalanced (x0 : Value) (w : World) (K : (Bool × Int) → World → Prop) : Prop :=
  (Pr Try.prog (Instr.box 28 x0) w (.one .any) fun (x1_2 : Value) w_1 => (Fc Try.prog 72 #[x1_2, (.func (.func 84) #[] #[])] w_1 (.one (.int .i64)) fun (x5_4 : Int) w_3 => (((x5_4 != (0 : Int)) = true → K (false, x5_4) w_3) ∧ ((x5_4 != (0 : Int)) = false → (Fc Try.prog 86 #[x1_2] w_3 (.one .bool) fun (x9_6 : Bool) w_5 => K (x9_6, (0 : Int)) w_5)))))

theorem eq_impl_IsBalanced (x0 : Value) (w : World) (K : (Bool × Int) → World → Prop) :
    W Try.prog ty (fun _ _ _ _ => False) (bodyOf Try.f38) (fnPost Try.prog Try.f38.results.toList (.two .bool (.int .i64)) K) (frame0 [x0] 10) w = V_impl_IsBalanced x0 w K := by
  kernel_rfl

theorem body_impl_IsBalanced : Try.f38.body = some (bodyOf Try.f38) := by kernel_rfl
theorem name_impl_IsBalanced : (Try.f38.name == "runtime.NumGoroutine") = false := by kernel_rfl

theorem walk_impl_IsBalanced (x0 : Value) {w : World} {K : (Bool × Int) → World → Prop} (h : V_impl_IsBalanced x0 w K) : Fc Try.prog 38 #[x0] w (.two .bool (.int .i64)) K :=
  fn_ok follows (sound_none _) Try.func38 name_impl_IsBalanced body_impl_IsBalanced Try.ntmps38 [x0] (Eq.mpr (eq_impl_IsBalanced x0 w K) h)

-- uses S9Bal
theorem c_impl_IsBalanced {c : Col} {w : World} {K : Bool × Int → World → Prop} (hc : c.Ok)
    (hK : ∀ w', Below w.heap.size w w' → K ((balF c).1, (balF c).2) w') : Fc Try.prog F_impl_IsBalanced #[c.val] w (.two .bool (.int .i64)) K := by
  unfold balF at hK
  refine walk_impl_IsBalanced _ (col_box fun b w1 m1 hx => c_impl_Colouring_code true hc hx (fun _ w' K' hb' hk => cv rfl (c_impl_always (hk _ (Below.refl _ _)))) fun w2 hb2 => ?_)
  have q2 := m1.below.trans (hb2.mono m1.below.size)
  by_cases h : c.Is
  case neg =>
    rw [if_neg h] at hK ⊢
    exact ⟨fun _ => hK w2 q2, fun h => absurd (ne_f h) (by omega)⟩
  rw [if_pos h] at hK ⊢
  exact ⟨fun h => absurd rfl (ne_t h), fun _ => c_impl_Colouring_isBalanced hc h (hx.keep hb2) fun w3 q3 => hK w3 (q2.trans (q3.mono q2.size))⟩

end Go.Proofs.Ytdkodhonaoecnaa
