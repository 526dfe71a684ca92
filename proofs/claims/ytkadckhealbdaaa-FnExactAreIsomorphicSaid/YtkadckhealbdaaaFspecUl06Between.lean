/- The reading of spec_l06Between, and its contract. No condition. -/
import Derived.Test.YtkadckhealbdaaaTy
import Derived.Test.YtkadckhealbdaaaS9IsoS
import Derived.Test.YtkadckhealbdaaaFspecUl06Go
import Derived.Test.YtkadckhealbdaaaFspecUl06Types
namespace Go.Proofs.Ytkadckhealbdaaa
open Go Go.RowKit Eng Mem
set_option linter.unusedVariables false
set_option maxRecDepth 100000
def V_spec_l06Between (x0 : Value) (y1 : Value) (most2 : Int) (w : World) (K : Value → World → Prop) : Prop :=
  (Pr Try.prog (Instr.box 25 x0) w (.one .any) fun (x3_2 : Value) w_1 => (Pr Try.prog (Instr.box 25 y1) w_1 (.one .any) fun (y4_4 : Value) w_3 => (∀ w_5, Drew w_3 w_5 → (QSub Try.prog (Instr.loadAt 25 x3_2) w_5 .any fun (x8_6 : Value) => (QSub Try.prog (Instr.loadAt 25 y4_4) w_5 .any fun (x9_7 : Value) => (QSub Try.prog (Instr.loadAt 25 x3_2) w_5 .any fun (x10_8 : Value) => (QSub Try.prog (Instr.loadAt 25 y4_4) w_5 .any fun (x12_9 : Value) => (Fc Try.prog 96 #[x10_8] w_5 (.one .any) fun (x11_11 : Value) w_10 => (Keeps w_5 w_10 ((Fc Try.prog 96 #[x12_9] w_10 (.one .any) fun (x13_13 : Value) w_12 => (Keeps w_5 w_12 ((Pr Try.prog (Instr.build 73 #[(0, x8_6), (1, x9_7), (2, x11_11), (3, x13_13), (4, (.int .i64 most2))]) w_12 (.one .any) fun (x15_15 : Value) w_14 => (Keeps w_5 w_14 ((Pr Try.prog (Instr.box 73 x15_15) w_14 (.one .any) fun (x16_17 : Value) w_16 => (Keeps w_5 w_16 ((QAll Try.prog (Instr.fieldAt 25 x3_2 0) .any fun (x17_18 : Value) => (QSub Try.prog (Instr.loadAt 2 x17_18) w_16 (.int .i64) fun (x18_19 : Int) => (QAll Try.prog (Instr.fieldAt 25 y4_4 0) .any fun (x19_20 : Value) => (QSub Try.prog (Instr.loadAt 2 x19_20) w_16 (.int .i64) fun (x20_21 : Int) => (((x18_19 != x20_21) = true → K (x16_17 : Value) w_16) ∧ ((x18_19 != x20_21) = false → (QAll Try.prog (Instr.fieldAt 25 x3_2 1) .any fun (x23_22 : Value) => (QSub Try.prog (Instr.loadAt 2 x23_22) w_16 (.int .i64) fun (x24_23 : Int) => (QAll Try.prog (Instr.fieldAt 25 y4_4 1) .any fun (x25_24 : Value) => (QSub Try.prog (Instr.loadAt 2 x25_24) w_16 (.int .i64) fun (x26_25 : Int) => (((x24_23 != x26_25) = true → K (x16_17 : Value) w_16) ∧ ((x24_23 != x26_25) = false → (Pr Try.prog (Instr.buildSlice 31 0 #[]) w_16 (.one .any) fun (x31_27 : Value) w_26 => (Fc Try.prog 97 #[x16_17, x31_27, (.int .i64 (0 : Int))] w_26 .unit fun (x32_29 : Unit) w_28 => K (x16_17 : Value) w_28)))))))))))))))))))))))))))))))))

theorem eq_spec_l06Between (x0 : Value) (y1 : Value) (most2 : Int) (w : World) (K : Value → World → Prop) :
    W Try.prog ty (fun _ _ _ _ => False) (bodyOf Try.f66) (fnPost Try.prog Try.f66.results.toList (.one .any) K) (frame0 [x0, y1, (.int .i64 most2)] 34) w = V_spec_l06Between x0 y1 most2 w K := by
  kernel_rfl

theorem body_spec_l06Between : Try.f66.body = some (bodyOf Try.f66) := by kernel_rfl
theorem name_spec_l06Between : (Try.f66.name == "runtime.NumGoroutine") = false := by kernel_rfl

theorem walk_spec_l06Between (x0 : Value) (y1 : Value) (most2 : Int) {w : World} {K : Value → World → Prop} (h : V_spec_l06Between x0 y1 most2 w K) : Fc Try.prog 66 #[x0, y1, (.int .i64 most2)] w (.one .any) K :=
  fn_ok follows (sound_none _) Try.func66 name_spec_l06Between body_spec_l06Between Try.ntmps66 [x0, y1, (.int .i64 most2)] (Eq.mpr (eq_spec_l06Between x0 y1 most2 w K) h)

-- uses S9IsoS
theorem c_spec_l06Between {x y : Col} {w : World} {K : Value → World → Prop} (hx : x.Ok) (hy : y.Ok) (Ix : x.Is) (Iy : y.Is)
    (hn : isoOf x y = none → ∀ w' b one two, w.heap.size ≤ b → Below w.heap.size w w' → SrAt w' b x y one two 1 0 (.slice none 0 0) → K (ptr b 0) w')
    (hs : ∀ l, isoOf x y = some l → ∀ w' b one two u c, w.heap.size ≤ b → Below w.heap.size w w' → w.heap.size ≤ c → OwnI w' c u l → SrAt w' b x y one two 1 1 u → K (ptr b 0) w') :
    Fc Try.prog F_spec_l06Between #[x.val, y.val, .int .i64 1] w (.one .any) K := by
  have n0 := Ix.1; have n1 := Ix.2.1
  unfold isoOf at hn hs
  refine walk_spec_l06Between _ _ _ (col_box fun b1 w1 m1 ax => col_box fun b2 w2 m2 ay => ?_)
  have q2 := m1.below.trans (m2.below.mono m1.below.size)
  have ax := ax.keep m2.below
  intro w3 hd
  have q3 := q2.trans (hd.below w.heap.size)
  have b23 := hd.below w2.heap.size
  have ax3 := ax.keep b23
  have ay3 := ay.keep b23
  refine col_all hx ax3 (col_all hy ay3 (col_all hx ax3 (col_all hy ay3 (c_spec_l06Types hx Ix fun one w4 c4 hc4 q4 o4 => ⟨q4, c_spec_l06Types hy Iy fun two w5 c5 hc5 q5 o5 => ?_⟩))))
  have q45 := q4.trans (q5.mono q4.size)
  refine ⟨q45, ?_⟩
  have hlx := typesL_len x x.n.toNat
  have hly := typesL_len y y.n.toNat
  have ny := Iy.2.1
  refine ⟨_, w5, buildSr hx hy (slI_cells (own_slI o4 (by omega))) (slI_cells (own_slI o5 (by omega))) 1 w5, q45, box _ rfl fun b w6 m6 => ?_⟩
  have q6 := q45.trans (m6.below.mono q45.size)
  refine ⟨q6, ?_⟩
  have hsr : SrAt w6 b x y one two 1 0 (.slice none 0 0) := ⟨m6.at_⟩
  have e6 := m6.here
  have q36 := q3.trans (q6.mono q3.size)
  have hz := q3.size; have hz6 := q6.size; have hz45 := q45.size
  have ax6 := ax3.keep q6
  have ay6 := ay3.keep q6
  have hb : w.heap.size ≤ b := by omega
  refine col_n ax6 (col_n ay6 ⟨fun h => ?_, fun h => col_k ax6 (col_k ay6 ⟨fun h2 => ?_, fun h2 => nilI fun b0 v0 w7 e0 q7 o7 => ?_⟩)⟩)
  · rw [if_neg (fun hh => ne_t h hh.1)] at hn
    exact hn rfl w6 b one two hb q36 hsr
  · rw [if_neg (fun hh => ne_t h2 hh.2)] at hn
    exact hn rfl w6 b one two hb q36 hsr
  have hxy := ne_f h; have hk := ne_f h2
  rw [if_pos ⟨hxy, hk⟩] at hn hs
  have q37 := q36.trans (q7.mono q36.size)
  have o46 := ((o4.keep q5).keep m6.below).keep q7
  have o56 := (o5.keep m6.below).keep q7
  have hz7 := q37.size
  refine c_spec_l06Go (first := .slice none 0 0) w.heap.size hx hy Ix Iy hxy hk x.n.toNat [] v0 0 w7 _ (by simp) hz7 (hsr.keep q7) (own_slI o46 (by omega)) (own_slI o56 (by omega)) (own_slI o7 (by simp)) (by simp) (by decide) bits_empty (fun hnone w8 q8 => ?_) (fun l hsome w8 u c m8 hc ho hs8 => ?_)
  · exact hn hnone w8 b one two hb (q37.trans (q8.mono hz7)) ((hsr.keep q7).keep q8)
  · exact hs l hsome w8 b one two u c hb (q37.trans (m8.below (by omega) (by simp; omega))) hc ho hs8

end Go.Proofs.Ytkadckhealbdaaa
