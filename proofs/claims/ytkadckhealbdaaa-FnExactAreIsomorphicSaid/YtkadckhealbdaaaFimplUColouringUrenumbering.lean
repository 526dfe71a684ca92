/- The reading of impl_Colouring_renumbering, and its contract. No condition. -/
import Derived.Test.YtkadckhealbdaaaTy
import Derived.Test.YtkadckhealbdaaaS9IsoM
import Derived.Test.YtkadckhealbdaaaFimplUColouringUleading
import Derived.Test.YtkadckhealbdaaaFimplUColouringUrenumberingU1
namespace Go.Proofs.Ytkadckhealbdaaa
open Go Go.RowKit Eng Mem
set_option linter.unusedVariables false
set_option maxRecDepth 100000
def V_impl_Colouring_renumbering (x0 : Value) (y1 : Value) (w : World) (K : (Value × Bool) → World → Prop) : Prop :=
  (Pr Try.prog (Instr.buildSlice 31 0 #[]) w (.one .any) fun (x8_2 : Value) w_1 => (Pr Try.prog (Instr.alloc 31 true (.tuple #[])) w_1 (.one .any) fun (out6_4 : Value) w_3 => (PrU Try.prog (Instr.storeAt 31 out6_4 x8_2) w_3 fun w_5 => (Fc Try.prog 99 #[x0, y1, (.func (.func 100) #[] #[out6_4])] w_5 (.one .bool) fun (x12_8 : Bool) w_7 => (QSub Try.prog (Instr.loadAt 31 out6_4) w_7 .any fun (x13_9 : Value) => K ((x13_9 : Value), (!x12_8)) w_7)))))

theorem eq_impl_Colouring_renumbering (x0 : Value) (y1 : Value) (w : World) (K : (Value × Bool) → World → Prop) :
    W Try.prog ty (fun _ _ _ _ => False) (bodyOf Try.f68) (fnPost Try.prog Try.f68.results.toList (.two .any .bool) K) (frame0 [x0, y1] 16) w = V_impl_Colouring_renumbering x0 y1 w K := by
  kernel_rfl

theorem body_impl_Colouring_renumbering : Try.f68.body = some (bodyOf Try.f68) := by kernel_rfl
theorem name_impl_Colouring_renumbering : (Try.f68.name == "runtime.NumGoroutine") = false := by kernel_rfl

theorem walk_impl_Colouring_renumbering (x0 : Value) (y1 : Value) {w : World} {K : (Value × Bool) → World → Prop} (h : V_impl_Colouring_renumbering x0 y1 w K) : Fc Try.prog 68 #[x0, y1] w (.two .any .bool) K :=
  fn_ok follows (sound_none _) Try.func68 name_impl_Colouring_renumbering body_impl_Colouring_renumbering Try.ntmps68 [x0, y1] (Eq.mpr (eq_impl_Colouring_renumbering x0 y1 w K) h)

-- uses S9IsoM
theorem c_impl_Colouring_renumbering {px py : Value} {x y : Col} {w : World} {K : Value × Bool → World → Prop} (hx : x.Ok) (hy : y.Ok) (Ix : x.Is) (Iy : y.Is) (ax : ColAt w px x) (ay : ColAt w py y)
    (hK : ∀ v w', Below w.heap.size w w' → MyI w.heap.size w'.heap.size w' v ((isoOf x y).getD []) → K (v, (isoOf x y).isSome) w') : Fc Try.prog F_impl_Colouring_renumbering #[px, py] w (.two .any .bool) K := by
  refine walk_impl_Colouring_renumbering _ _ (nilI fun b0 v0 w1 e0 q1 o0 => alloc1 y1SI fun bv w2 m2 => st y1SI m2.at_ (by simp) (own_one_I o0) fun w3 m3 s3 h3 => ?_)
  have h3 : Blk w3 bv [v0] tSI := h3
  have e2 := m2.here; have s2 := m2.size; have hs1 := q1.size
  have q3 : Below w.heap.size w w3 := (q1.trans (m2.below.mono hs1)).trans (m3.below (by omega) (by simp; omega))
  have hl0 := o0.lt
  have o3 : OwnI w3 b0 v0 [] := (o0.keep m2.below).mod m3 (by simp; omega)
  have hs3 := q3.size
  refine c_impl_Colouring_leading (fun w' => Below w.heap.size w w' ∧ Blk w' bv [v0] tSI ∧ OwnI w' b0 v0 []) (fun l w' => ∃ u, Below w.heap.size w w' ∧ MyI w.heap.size w'.heap.size w' u l ∧ Blk w' bv [u] tSI) hx hy Ix Iy (ax.keep q3) (ay.keep q3) ⟨q3, h3, o3⟩
    (fun w1' w2' hj q => ?_) (fun l v w' K' hj q hl hv hk' => cv rfl (c_impl_Colouring_renumbering_1 hv hl hj.2.1 fun u w'' m hu hb => hk' w'' ⟨u, hj.1.trans (m.below (by have := hj.1.size; omega) (by simp; omega)), hu.mono (by have := hj.1.size; omega) (Nat.le_refl _), hb⟩))
    (fun hnone w4 q4 hj => ?_) (fun l hsome w4 hq => ?_)
  · have hb := at_lt h3
    have hz := hj.1.size
    refine ⟨hj.1.trans (q.mono (by omega)), ?_, ?_⟩
    · rw [Blk, q.block bv hb]; exact hj.2.1
    · obtain ⟨cap, l', hv, hb', r⟩ := hj.2.2
      exact ⟨cap, l', hv, by rw [Blk, q.block b0 (by omega)]; exact hb', r⟩
  · refine ld (k := .any) y1SI (row_all (cs := [_]) hj.2.1) ?_
    have := hK v0 w4 hj.1
    rw [hnone] at this
    exact this (own_my hj.2.2 (by simp) (by omega) hj.2.2.lt)
  · obtain ⟨u, q4, hu, hb⟩ := hq
    refine ld (k := .any) y1SI (row_all (cs := [_]) hb) ?_
    have := hK u w4 q4
    rw [hsome] at this
    exact this hu

end Go.Proofs.Ytkadckhealbdaaa
