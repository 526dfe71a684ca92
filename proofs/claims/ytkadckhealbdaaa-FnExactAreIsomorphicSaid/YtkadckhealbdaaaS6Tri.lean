/- The pieces that the loops over all pairs share. No condition. -/
import Derived.Test.YtkadckhealbdaaaS6Pair
namespace Go.Proofs.Ytkadckhealbdaaa
open Go Go.RowKit Eng Mem
set_option maxRecDepth 100000
/-- What holds at the head of the loop over the greater point. -/
structure Tri (w w' : World) (p : Value) (b : Nat) (n k : Int) (g : Int → Int → Int) (m : Int) : Prop where
  bel : Below w.heap.size w w'
  var : CVar w.heap.size w' p
  blk : BlkC w' b ⟨n, k, esF (fun e => g (pi e) (pj e)) m.toNat⟩
  lo : w.heap.size ≤ b
  ne : p ≠ ptr b 0
theorem Tri.keep {w w1 w2 : World} {p : Value} {b : Nat} {n k m : Int} {g : Int → Int → Int} (h : Tri w w1 p b n k g m) (hb : Below w1.heap.size w1 w2) : Tri w w2 p b n k g m :=
  ⟨h.bel.trans (hb.mono h.bel.size), h.var.keep hb, below_at hb h.blk (at_lt h.blk), h.lo, h.ne⟩
theorem tri_from {w w1 : World} {p : Value} {n k : Int} (g : Int → Int → Int) {K : Value → World → Prop} (hb1 : Below w.heap.size w w1) (hv : CVar w.heap.size w1 p) (hK : ∀ b w', Tri w w' p b n k g (edgesOf 1) → K (ptr b 0) w') :
    Pr Try.prog (Instr.build tC #[(0, .int .i64 n), (1, .int .i64 k)]) w1 (.one .any) fun x w2 => Pr Try.prog (Instr.alloc tC true (.tuple #[])) w2 (.one .any) fun o w3 => PrU Try.prog (Instr.storeAt tC o x) w3 fun w4 => K o w4 := by
  refine build2 (allocA yC fun b w2 n2 => ?_)
  have e2 := n2.here; have s2 := n2.size; have hs1 := hb1.size
  have hne := hv.ne (Nat.le_of_eq e2.symm)
  refine stA0 yC n2.at_ (by simp [Col.cells, zC, zA]) (by simp [Col.cells, zC, zA]) (Col.cells_one _) fun w3 m3 s3 h3 => hK b w3 ⟨?_, (hv.keep n2.below).mod m3 hne, ?_, by omega, hne⟩
  · exact (hb1.trans (n2.below.mono hs1)).trans (m3.below (by omega) (by simp; omega))
  · rw [show (edgesOf 1).toNat = 0 from by decide, esF_0]; exact h3
theorem tri_start {w : World} {n k : Int} (g : Int → Int → Int) {K : Value → Value → World → Prop} (hK : ∀ p b w', Tri w w' p b n k g (edgesOf 1) → K p (ptr b 0) w') :
    Pr Try.prog (Instr.alloc tC true (.tuple #[])) w (.one .any) fun p w1 => Pr Try.prog (Instr.build tC #[(0, .int .i64 n), (1, .int .i64 k)]) w1 (.one .any) fun x w2 => Pr Try.prog (Instr.alloc tC true (.tuple #[])) w2 (.one .any) fun o w3 => PrU Try.prog (Instr.storeAt tC o x) w3 fun w4 => K p o w4 :=
  c_alloc fun p w1 hb1 hv => tri_from g hb1 hv fun b w' ht => hK p b w' ht
theorem Tri.put {w w1 : World} {p : Value} {b : Nat} {n k : Int} {g : Int → Int → Int} {i j : Int} {ik : IntKind} {K : World → Prop} (h : Tri w w1 p b n k g (edgesOf j + i)) (h0 : 0 ≤ i) (h1 : i < j) (h2 : j ≤ 16)
    (hK : ∀ w', Tri w w' p b n k g (edgesOf j + (i + 1)) → K w') :
    QAll Try.prog (Instr.indexAt tA (ptr b 2) (.int ik (num i j))) .any fun q => PrU Try.prog (Instr.storeAt tB q (.int .u8 (g i j))) w1 K := by
  have hn := enum_lt h0 h1 (n := 17) (by omega) (by omega)
  rw [show edgesOf 17 = 136 from by decide] at hn
  rw [num_of h1]
  refine put_e h.blk (esF_len _ _) hn.1 hn.2 fun w2 m hs h2' => hK w2 ⟨h.bel.trans (m.below h.bel.size (by simp; exact h.lo)), h.var.mod m h.ne, ?_, h.lo, h.ne⟩
  have := esG_set (g := g) h0 h1 h2
  rw [num_of h1] at this
  rw [this] at h2'
  exact h2'
theorem tri_end {w w1 : World} {p : Value} {b : Nat} {n k : Int} {g : Int → Int → Int} {K : Value → World → Prop} (hok : (colG n k g).Ok) (h : Tri w w1 p b n k g (edgesOf n)) (hK : ∀ w', Below w.heap.size w w' → K (colG n k g).val w') :
    QSub Try.prog (Instr.loadAt tC (ptr b 0)) w1 .any fun x => PrU Try.prog (Instr.storeAt tC p x) w1 fun w2 => QSub Try.prog (Instr.loadAt tC p) w2 .any fun r => K r w2 :=
  col_all hok (blk_row h.blk) (c_ret hok h.var h.bel.size fun w2 hb2 => hK w2 (h.bel.trans hb2))
end Go.Proofs.Ytkadckhealbdaaa
