/- What ColouringOf answers. No condition. -/
import Derived.Test.YtdnofmicjgppnaaS5Made
namespace Go.Proofs.Ytdnofmicjgppnaa
open Go Go.RowKit Eng Mem
def colOf (n k : Int) (l : List Int) : Col × Int := if Sizes n k ∧ (l.length : Int) = edgesOf n ∧ AllIn l 0 (k - 1) then (colF n k fun e => l.getD e 0, 0) else (col0, 2)
theorem colOf_ok (n k : Int) (l : List Int) : (colOf n k l).1.Ok := by
  unfold colOf
  split
  · rename_i h
    have hs := h.1
    refine colF_ok ⟨by have := hs.1; omega, by have := hs.2.1; omega⟩ ⟨by have := hs.2.2.1; omega, by have := hs.2.2.2; omega⟩ fun e he => ?_
    have := h.2.2.get (i := e) (by omega)
    have := hs.2.2.2
    omega
  · exact col0_ok
theorem SlI.cells {w : World} {v : Value} {l : List Int} (h : SlI w v l) : v.cells = #[v] := by
  obtain ⟨a, n, c, rfl, _⟩ := h.sl
  rfl
end Go.Proofs.Ytdnofmicjgppnaa
