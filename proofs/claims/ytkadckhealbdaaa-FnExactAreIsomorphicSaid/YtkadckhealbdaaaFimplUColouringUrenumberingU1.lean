/- The reading of impl_Colouring_renumbering_1, and its contract. No condition. -/
import Derived.Test.YtkadckhealbdaaaTy
import Derived.Test.YtkadckhealbdaaaS9IsoM
import Derived.Test.YtkadckhealbdaaaFslicesUCloneUint64Uint64
namespace Go.Proofs.Ytkadckhealbdaaa
open Go Go.RowKit Eng Mem
set_option linter.unusedVariables false
set_option maxRecDepth 100000
def V_impl_Colouring_renumbering_1 (p0 : Value) (x1 : Value) (w : World) (K : Bool → World → Prop) : Prop :=
  (Fc Try.prog 64 #[p0] w (.one .any) fun (x5_2 : Value) w_1 => (PrU Try.prog (Instr.storeAt 31 x1 x5_2) w_1 fun w_3 => K false w_3))

theorem eq_impl_Colouring_renumbering_1 (p0 : Value) (x1 : Value) (w : World) (K : Bool → World → Prop) :
    W Try.prog ty (fun _ _ _ _ => False) (bodyOf Try.f100) (fnPost Try.prog Try.f100.results.toList (.one .bool) K) (frame0 [p0, x1] 6) w = V_impl_Colouring_renumbering_1 p0 x1 w K := by
  kernel_rfl

theorem body_impl_Colouring_renumbering_1 : Try.f100.body = some (bodyOf Try.f100) := by kernel_rfl
theorem name_impl_Colouring_renumbering_1 : (Try.f100.name == "runtime.NumGoroutine") = false := by kernel_rfl

theorem walk_impl_Colouring_renumbering_1 (p0 : Value) (x1 : Value) {w : World} {K : Bool → World → Prop} (h : V_impl_Colouring_renumbering_1 p0 x1 w K) : Fc Try.prog 100 #[p0, x1] w (.one .bool) K :=
  fn_ok follows (sound_none _) Try.func100 name_impl_Colouring_renumbering_1 body_impl_Colouring_renumbering_1 Try.ntmps100 [p0, x1] (Eq.mpr (eq_impl_Colouring_renumbering_1 p0 x1 w K) h)

-- uses S9IsoM
theorem c_impl_Colouring_renumbering_1 {v v0 : Value} {bv : Nat} {l : List Int} {w : World} {K : Bool → World → Prop} (hv : SlI w v l) (hl : l.length ≤ 17) (hb : Blk w bv [v0] tSI)
    (hK : ∀ u w', Mod [bv] w w' → MyI w.heap.size w'.heap.size w' u l → Blk w' bv [u] tSI → K false w') : Fc Try.prog F_impl_Colouring_renumbering_1 #[v, ptr bv 0] w (.one .bool) K := by
  refine walk_impl_Colouring_renumbering_1 _ _ (c_slices_Clone_int64_int64 hv (by omega) fun u w1 q1 hu => ?_)
  have one : u.oneCell' = true := by
    rcases hu with ⟨_, ⟨rfl, _⟩ | ⟨c, _, _, ho⟩⟩
    · rfl
    · exact own_one_I ho
  have hlt := at_lt hb
  refine st y1SI (below_at q1 hb hlt) (by simp) one fun w2 m2 s2 h2 => hK u w2 ((mod_of_below q1 _).trans m2) ?_ h2
  have hz := q1.size
  rw [s2]
  exact hu.modr (m2.r (B := 0) (E := w.heap.size) (by omega) hlt) (by omega)

end Go.Proofs.Ytkadckhealbdaaa
