/- A copy and one more; what ColoursNext answers. No condition. -/
import Derived.Test.YtkadckhealbdaaaS8Free
namespace Go.Proofs.Ytkadckhealbdaaa
open Go Go.RowKit Eng Mem
set_option maxRecDepth 100000
theorem MyI.app {B E : Nat} {w : World} {v : Value} {l : List Int} {x : Int} {t : TypeId} {K : Value → World → Prop} (hv : MyI B E w v l) (hB : B ≤ w.heap.size) (hl : l.length < 1099511627776)
    (hK : ∀ v' w', Below B w w' → MyI B w'.heap.size w' v' (l ++ [x]) → K v' w') :
    Pr Try.prog (Instr.buildSlice tSI 1 #[(0, .int .i64 x)]) w (.one .any) fun y w1 => Pr Try.prog (Builtin.append_ #[tSI, tSI] t #[v, y]) w1 (.one .any) K := by
  rcases hv with ⟨_, ⟨rfl, rfl⟩ | ⟨b, hbB, hbE, ho⟩⟩
  · refine mk1 ySI rfl fun b1 w1 n1 o1 => app_nil ySI 1 (ys := iv [x]) o1.sl (by simp) (by omega) (by omega) fun v' w2 b' o m hb' => ?_
    have hs := n1.below.size
    exact hK v' w2 ((n1.below.mono hB).trans (m.below (by omega) (by simp))) (own_my (b := b') o (by simp) (by omega) o.lt)
  · refine appI ho (by omega) fun v' w2 b' o m hb' => ?_
    exact hK v' w2 (m.below hB (by simpa using hbB)) (own_my o (by simp; omega) (by omega) o.lt)
def nextOf (k : Int) (l : List Int) (kind : Int) : List Int × Int :=
  if IsPart k l ∧ 0 ≤ kind ∧ kind ≤ 2 then (if l.length = 40 then ([], 2) else if faR l kind 0 l.length = [] then (nextL l kind k.toNat, 0) else ([], 5)) else ([], 2)
end Go.Proofs.Ytkadckhealbdaaa
