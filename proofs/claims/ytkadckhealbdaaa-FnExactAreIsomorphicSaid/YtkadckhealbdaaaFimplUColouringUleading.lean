/- The reading of impl_Colouring_leading, and its contract. No condition. -/
import Derived.Test.YtkadckhealbdaaaTy
import Derived.Test.YtkadckhealbdaaaS9IsoM
import Derived.Test.YtkadckhealbdaaaFimplUColouringUpoints
import Derived.Test.YtkadckhealbdaaaFimplUnewTracer
import Derived.Test.YtkadckhealbdaaaFimplUtracerUall
namespace Go.Proofs.Ytkadckhealbdaaa
open Go Go.RowKit Eng Mem
set_option linter.unusedVariables false
set_option maxRecDepth 100000
def V_impl_Colouring_leading (x0 : Value) (y1 : Value) (with2 : Value) (w : World) (K : Bool → World → Prop) : Prop :=
  (Fc Try.prog 120 #[x0] w (.one .any) fun (x11_2 : Value) w_1 => (Fc Try.prog 119 #[x0, y1, x11_2] w_1 (.one .any) fun (x12_4 : Value) w_3 => (QAll Try.prog (do eqGuard .eql 111 (.tmp 13) (.const (.pointer none)) x12_4 (.pointer none); binOp .eql 111 x12_4 (.pointer none)) .bool fun (x14_5 : Bool) => ((x14_5 = true → K true w_3) ∧ (x14_5 = false → (Pr Try.prog (Instr.makeSlice 31 (.int .i64 (0 : Int)) (.int .i64 (17 : Int))) w_3 (.one .any) fun (x17_7 : Value) w_6 => (Fc Try.prog 121 #[x12_4, x17_7, with2] w_6 (.one .bool) fun (x19_9 : Bool) w_8 => K x19_9 w_8)))))))

theorem eq_impl_Colouring_leading (x0 : Value) (y1 : Value) (with2 : Value) (w : World) (K : Bool → World → Prop) :
    W Try.prog ty (fun _ _ _ _ => False) (bodyOf Try.f99) (fnPost Try.prog Try.f99.results.toList (.one .bool) K) (frame0 [x0, y1, with2] 21) w = V_impl_Colouring_leading x0 y1 with2 w K := by
  kernel_rfl

theorem body_impl_Colouring_leading : Try.f99.body = some (bodyOf Try.f99) := by kernel_rfl
theorem name_impl_Colouring_leading : (Try.f99.name == "runtime.NumGoroutine") = false := by kernel_rfl

theorem walk_impl_Colouring_leading (x0 : Value) (y1 : Value) (with2 : Value) {w : World} {K : Bool → World → Prop} (h : V_impl_Colouring_leading x0 y1 with2 w K) : Fc Try.prog 99 #[x0, y1, with2] w (.one .bool) K :=
  fn_ok follows (sound_none _) Try.func99 name_impl_Colouring_leading body_impl_Colouring_leading Try.ntmps99 [x0, y1, with2] (Eq.mpr (eq_impl_Colouring_leading x0 y1 with2 w K) h)

-- uses S9IsoM
theorem eqPT {a : Option Addr} {ox oy : Operand} {K : Bool → Prop} (hK : K a.isNone) : QAll Try.prog (do eqGuard .eql tPT ox oy (.pointer a) (.pointer none); binOp .eql tPT (.pointer a) (.pointer none)) .bool K := ⟨_, fun w => eqPT_run a ox oy w, hK⟩
theorem c_impl_Colouring_leading {px py f : Value} {x y : Col} {w : World} {K : Bool → World → Prop} (J : World → Prop) (Q : List Int → World → Prop) (hx : x.Ok) (hy : y.Ok) (Ix : x.Is) (Iy : y.Is) (ax : ColAt w px x) (ay : ColAt w py y) (hj : J w)
    (hst : ∀ w1 w2, J w1 → Below w.heap.size w1 w2 → J w2)
    (hcall : ∀ (l : List Int) (v : Value) (w' : World) (K' : Bool → World → Prop), J w' → Below w.heap.size w w' → l.length ≤ 17 → SlI w' v l → (∀ w'', Q l w'' → K' false w'') → callV Try.prog f #[v] w' (.one .bool) K')
    (hn : isoOf x y = none → ∀ w', Below w.heap.size w w' → J w' → K true w') (hs : ∀ l, isoOf x y = some l → ∀ w', Q l w' → K false w') :
    Fc Try.prog F_impl_Colouring_leading #[px, py, f] w (.one .bool) K := by
  have n0 := Ix.1; have n1 := Ix.2.1
  unfold isoOf at hn hs
  refine walk_impl_Colouring_leading _ _ _ (c_impl_Colouring_points ax n1 fun po w1 bo hbo q1 ho => ?_)
  have hol := selT_len x.n.toNat
  refine c_impl_newTracer hx hy Ix Iy (ax.keep q1) (ay.keep q1) (own_slI ho (by omega)) (fun hne w2 q2 => ?_) (fun hxy hk w2 b S hb q2 h2 hS => ?_)
  · have q12 := q1.trans (q2.mono q1.size)
    refine eqPT ⟨fun _ => ?_, fun h => absurd h (by simp)⟩
    exact hn (by rw [if_neg hne]) w2 q12 (hst _ _ hj q12)
  · have q12 := q1.trans (q2.mono q1.size)
    have hs1 := q1.size; have hs2 := q2.size
    refine eqPT (a := some ⟨b, 0, none⟩) ⟨fun h => absurd h (by simp), fun _ => mkC fun bp w3 hbp q3 hp => ?_⟩
    have q13 := q12.trans (q3.mono q12.size)
    have ho3 := (ho.keep q2).keep q3
    have hlo := ho.lt
    have h3 : Blk w3 b (trV px py po S) tTr := below_at q3 h2 (at_lt h2)
    have hlb := at_lt h2
    rw [if_pos ⟨hxy, hk⟩] at hn hs
    refine c_impl_tracer_all (b := b) (bp := bp) (px := px) (py := py) (po := po) (S := S) (fun w' => J w' ∧ Below w.heap.size w w' ∧ Blk w' b (trV px py po S) tTr ∧ OwnI w' bo po (sel (fun _ => true) x.n.toNat)) Q hx hy n0 n1 hxy hS
      (fun w' hj' => ⟨hj'.2.2.1, ax.keep hj'.2.1, ay.keep hj'.2.1, own_slI hj'.2.2.2 (by omega)⟩)
      (fun w1' w2' hj' m => ?_)
      (fun l w' K' hl hj' hc hk' => hcall l _ w' K' hj'.1 hj'.2.1 (by omega) hc.sl hk')
      x.n.toNat [] w3 _ (by simp) ⟨hst _ _ hj q13, q13, h3, ho3⟩ hp (by simp) (fun hnone w4 hj4 m4 _ => hn hnone w4 hj4.2.1 hj4.1) (fun l hsome w4 hq => hs l hsome w4 hq)
    have hz := hj'.2.1.size
    have mb : Below w.heap.size w1' w2' := m.below (by omega) (by simp; omega)
    exact ⟨hst _ _ hj'.1 mb, hj'.2.1.trans mb, m.at_ hj'.2.2.1 (by simp; omega), hj'.2.2.2.mod m (by simp; omega)⟩

end Go.Proofs.Ytkadckhealbdaaa
