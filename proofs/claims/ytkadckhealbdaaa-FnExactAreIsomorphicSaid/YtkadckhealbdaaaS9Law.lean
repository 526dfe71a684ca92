/- More rules for the laws: variables of colourings, strings. No condition. -/
import Derived.Test.YtkadckhealbdaaaS5Made
import Derived.Laws.Strings
namespace Go.Proofs.Ytkadckhealbdaaa
open Go Go.RowKit Eng Mem
set_option maxRecDepth 100000
theorem col_new {w : World} {K : Value → World → Prop} (hK : ∀ b w', w.heap.size ≤ b → b < w'.heap.size → Below w.heap.size w w' → Blk w' b zC tC → K (ptr b 0) w') : Pr Try.prog (Instr.alloc tC true (.tuple #[])) w (.one .any) K :=
  allocA yC fun b w' hn => hK _ w' (Nat.le_of_eq hn.here.symm) (at_lt hn.at_) hn.below hn.at_
theorem col_put {w : World} {b : Nat} {c : Col} {K : World → Prop} (hb : Blk w b zC tC) (h : c.Ok) (hK : ∀ w', Mod [b] w w' → w'.heap.size = w.heap.size → ColAt w' (ptr b 0) c → K w') : PrU Try.prog (Instr.storeAt tC (ptr b 0) c.val) w K :=
  stA0 yC hb h.cells_len (by rw [h.cells_len]) c.cells_one fun w2 m hs hb2 => hK w2 m hs (blk_row hb2)
end Go.Proofs.Ytkadckhealbdaaa
