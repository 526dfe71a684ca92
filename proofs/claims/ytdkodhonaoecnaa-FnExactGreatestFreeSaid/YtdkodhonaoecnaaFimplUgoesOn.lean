/- The reading of impl_goesOn, and its contract. No condition. -/
import Derived.Test.YtdkodhonaoecnaaTy
import Derived.Test.YtdkodhonaoecnaaS8Fault
import Derived.Test.YtdkodhonaoecnaaFimplUfaultsAt
import Derived.Test.YtdkodhonaoecnaaFimplUgoesOnU1
import Derived.Test.YtdkodhonaoecnaaFimplUsizeS
namespace Go.Proofs.Ytdkodhonaoecnaa
open Go Go.RowKit Eng Mem
set_option linter.unusedVariables false
set_option maxRecDepth 100000
def V_impl_goesOn (part0 : Value) (kind1 : Int) (w : World) (K : Bool → World → Prop) : Prop :=
  (Pr Try.prog (Instr.alloc 4 true (.tuple #[])) w (.one .any) fun (fine5_2 : Value) w_1 => (PrU Try.prog (Instr.storeAt 4 fine5_2 (.bool true)) w_1 fun w_3 => (Fc Try.prog 63 #[part0] w_3 (.one (.int .i64)) fun (x9_6 : Int) w_5 => (Fc Try.prog 118 #[part0, (.int .i64 kind1), (.int .i64 x9_6), (.func (.func 126) #[] #[fine5_2])] w_5 .unit fun (x11_8 : Unit) w_7 => (QSub Try.prog (Instr.loadAt 4 fine5_2) w_7 .bool fun (x12_9 : Bool) => K x12_9 w_7)))))

theorem eq_impl_goesOn (part0 : Value) (kind1 : Int) (w : World) (K : Bool → World → Prop) :
    W Try.prog ty (fun _ _ _ _ => False) (bodyOf Try.f109) (fnPost Try.prog Try.f109.results.toList (.one .bool) K) (frame0 [part0, (.int .i64 kind1)] 13) w = V_impl_goesOn part0 kind1 w K := by
  kernel_rfl

theorem body_impl_goesOn : Try.f109.body = some (bodyOf Try.f109) := by kernel_rfl
theorem name_impl_goesOn : (Try.f109.name == "runtime.NumGoroutine") = false := by kernel_rfl

theorem walk_impl_goesOn (part0 : Value) (kind1 : Int) {w : World} {K : Bool → World → Prop} (h : V_impl_goesOn part0 kind1 w K) : Fc Try.prog 109 #[part0, (.int .i64 kind1)] w (.one .bool) K :=
  fn_ok follows (sound_none _) Try.func109 name_impl_goesOn body_impl_goesOn Try.ntmps109 [part0, (.int .i64 kind1)] (Eq.mpr (eq_impl_goesOn part0 kind1 w K) h)

-- uses S8Fault
theorem c_impl_goesOn {a : Value} {l : List Int} {kind : Int} {w : World} {K : Bool → World → Prop} (h : SlI w a l) (hl : l.length ≤ 41) (hk : 0 ≤ kind ∧ kind ≤ 2)
    (hK : ∀ w', Below w.heap.size w w' → K (decide (fz l kind l.length (l.length - 1) = [])) w') : Fc Try.prog F_impl_goesOn #[a, .int .i64 kind] w (.one .bool) K := by
  refine walk_impl_goesOn _ _ (alloc1 yb fun b w1 n1 => st yb n1.at_ (by simp) rfl fun w2 m2 s2 h2 => ?_)
  have e1 := n1.here
  have hb2 : Below w.heap.size w w2 := n1.below.trans (m2.below (by have := n1.below.size; omega) (by simp; omega))
  refine c_impl_sizeS (h.keep hb2) ?_
  refine c_impl_faultsAt (fun d w' => Below w.heap.size w w' ∧ Blk w' b [.bool (decide (d = []))] tb) hl hk (by omega) (by omega) (fun d w' hj => h.keep hj.1) (fun d w' w'' hj hd => ⟨hj.1.trans (hd.below _), below_at (hd.below w'.heap.size) hj.2 (at_lt hj.2)⟩) (fun y y0 y1 hi w' K' hj hk' => cv rfl ?_) ⟨hb2, by simpa using h2⟩ fun w' hj => ?_
  · refine c_impl_goesOn_1 hj.2 fun w'' m hb => hk' w'' ⟨hj.1.trans (m.below hj.1.size (by simp; omega)), ?_⟩
    simpa using hb
  · refine ld (k := .bool) yb (row_all (cs := [_]) hj.2) ?_
    have := hK w' hj.1
    rwa [show ((l.length : Int) - 1).toNat = l.length - 1 from by omega]

end Go.Proofs.Ytdkodhonaoecnaa
