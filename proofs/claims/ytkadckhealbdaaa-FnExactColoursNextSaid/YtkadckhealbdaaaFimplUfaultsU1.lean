/- The reading of impl_faults_1, and its contract. No condition. -/
import Derived.Test.YtkadckhealbdaaaTy
import Derived.Test.YtkadckhealbdaaaS8SS
namespace Go.Proofs.Ytkadckhealbdaaa
open Go Go.RowKit Eng Mem
set_option linter.unusedVariables false
set_option maxRecDepth 100000
def V_impl_faults_1 (x0 : Int) (y1 : Int) (x2 : Value) (x3 : Value) (w : World) (K : Unit → World → Prop) : Prop :=
  (QSub Try.prog (Instr.loadAt 68 x2) w .any fun (x6_1 : Value) => (QSub Try.prog (Instr.loadAt 2 x3) w (.int .i64) fun (x9_2 : Int) => (Pr Try.prog (Instr.buildSlice 31 3 #[(0, (.int .i64 x0)), (1, (.int .i64 y1)), (2, (.int .i64 x9_2))]) w (.one .any) fun (x10_4 : Value) w_3 => (Pr Try.prog (Instr.buildSlice 68 1 #[(0, x10_4)]) w_3 (.one .any) fun (x11_6 : Value) w_5 => (Pr Try.prog (Builtin.append_ #[68, 68] 68 #[x6_1, x11_6]) w_5 (.one .any) fun (x12_8 : Value) w_7 => (PrU Try.prog (Instr.storeAt 68 x2 x12_8) w_7 fun w_9 => K () w_9))))))

theorem eq_impl_faults_1 (x0 : Int) (y1 : Int) (x2 : Value) (x3 : Value) (w : World) (K : Unit → World → Prop) :
    W Try.prog ty (fun _ _ _ _ => False) (bodyOf Try.f94) (fnPost Try.prog Try.f94.results.toList .unit K) (frame0 [(.int .i64 x0), (.int .i64 y1), x2, x3] 13) w = V_impl_faults_1 x0 y1 x2 x3 w K := by
  kernel_rfl

theorem body_impl_faults_1 : Try.f94.body = some (bodyOf Try.f94) := by kernel_rfl
theorem name_impl_faults_1 : (Try.f94.name == "runtime.NumGoroutine") = false := by kernel_rfl

theorem walk_impl_faults_1 (x0 : Int) (y1 : Int) (x2 : Value) (x3 : Value) {w : World} {K : Unit → World → Prop} (h : V_impl_faults_1 x0 y1 x2 x3 w K) : Fc Try.prog 94 #[(.int .i64 x0), (.int .i64 y1), x2, x3] w .unit K :=
  fn_ok follows (sound_none _) Try.func94 name_impl_faults_1 body_impl_faults_1 Try.ntmps94 [(.int .i64 x0), (.int .i64 y1), x2, x3] (Eq.mpr (eq_impl_faults_1 x0 y1 x2 x3 w K) h)

-- uses S8SS
theorem c_impl_faults_1 {B : Nat} {p q : Value} {ls : List (List Int)} {x y z : Int} {w : World} {K : Unit → World → Prop} (h : FS B w p q ls z) (hl : ls.length ≤ 1099511627776) (hB : B ≤ w.heap.size)
    (hK : ∀ w', Below B w w' → FS B w' p q (ls ++ [[x, y, z]]) z → K () w') : Fc Try.prog F_impl_faults_1 #[.int .i64 x, .int .i64 y, p, q] w .unit K := by
  have hz := h.z
  obtain ⟨bx, bz, v, b, rfl, rfl, h1, h2, h3, h4, h5, h6⟩ := h
  refine walk_impl_faults_1 _ _ _ _ (ld (k := .any) (x := v) y1SSI (row_all (cs := [_]) h4) (ld (k := .int .i64) yI hz (mk3 ySI rfl rfl rfl fun c w1 n1 ho => ?_)))
  have e1 := n1.here
  have h6' := h6.keep n1.below
  refine appSS h6' (l := [x, y, z]) ho (by omega) hl fun v' w2 b' h2' hone m hb => ?_
  have hs1 := n1.below.size
  obtain ⟨_, hbb⟩ := h6'.blk
  have h4w1 := below_at n1.below h4 (at_lt h4)
  have h4' := m.at_ h4w1 (by simp; exact blk_ne h4w1 hbb (by decide))
  have h5w1 := below_at n1.below h5 (at_lt h5)
  have h5' := m.at_ h5w1 (by simp; exact blk_ne h5w1 hbb (by decide))
  refine st y1SSI h4' (by simp) hone fun w3 m3 s3 h3' => ?_
  obtain ⟨_, hbb2⟩ := h2'.blk
  refine hK w3 ((n1.below.mono hB).trans ((m.below (by omega) (by simp; omega)).trans (m3.below (by have := m.size; omega) (by simp; omega)))) ⟨bx, bz, v', b', rfl, rfl, h1, by omega, hone, h3', m3.at_ h5' (by simp; exact blk_ne h5' h4' (by decide)), h2'.mod m3 (by simp; exact blk_ne hbb2 h4' (by decide)) fun k hk l' hl' => ?_⟩
  simp at hk
  subst hk
  exact blk_ne hl' h4' (by decide) rfl

end Go.Proofs.Ytkadckhealbdaaa
