/- The reading of impl_Colouring_points, and its contract. No condition. -/
import Derived.Test.YtkadckhealbdaaaTy
import Derived.Test.YtkadckhealbdaaaS9IsoM
import Derived.Test.YtkadckhealbdaaaFimplUColouringUpointsU1
import Derived.Test.YtkadckhealbdaaaFimplUColouringUthat
namespace Go.Proofs.Ytkadckhealbdaaa
open Go Go.RowKit Eng Mem
set_option linter.unusedVariables false
set_option maxRecDepth 100000
def V_impl_Colouring_points (x0 : Value) (w : World) (K : Value → World → Prop) : Prop :=
  (Fc Try.prog 135 #[x0, (.func (.func 136) #[] #[])] w (.one .any) fun (x4_2 : Value) w_1 => K (x4_2 : Value) w_1)

theorem eq_impl_Colouring_points (x0 : Value) (w : World) (K : Value → World → Prop) :
    W Try.prog ty (fun _ _ _ _ => False) (bodyOf Try.f120) (fnPost Try.prog Try.f120.results.toList (.one .any) K) (frame0 [x0] 5) w = V_impl_Colouring_points x0 w K := by
  kernel_rfl

theorem body_impl_Colouring_points : Try.f120.body = some (bodyOf Try.f120) := by kernel_rfl
theorem name_impl_Colouring_points : (Try.f120.name == "runtime.NumGoroutine") = false := by kernel_rfl

theorem walk_impl_Colouring_points (x0 : Value) {w : World} {K : Value → World → Prop} (h : V_impl_Colouring_points x0 w K) : Fc Try.prog 120 #[x0] w (.one .any) K :=
  fn_ok follows (sound_none _) Try.func120 name_impl_Colouring_points body_impl_Colouring_points Try.ntmps120 [x0] (Eq.mpr (eq_impl_Colouring_points x0 w K) h)

-- uses S9IsoM
theorem c_impl_Colouring_points {x : Value} {c : Col} {w : World} {K : Value → World → Prop} (hx : ColAt w x c) (n1 : c.n ≤ 17)
    (hK : ∀ v w' b, w.heap.size ≤ b → Below w.heap.size w w' → OwnI w' b v (sel (fun _ => true) c.n.toNat) → K v w') : Fc Try.prog F_impl_Colouring_points #[x] w (.one .any) K :=
  walk_impl_Colouring_points _ (c_impl_Colouring_that (fun _ => true) hx n1 (fun j hj w' K' hb hk => cv rfl (c_impl_Colouring_points_1 (hk _ (Below.refl _ _)))) hK)

end Go.Proofs.Ytkadckhealbdaaa
