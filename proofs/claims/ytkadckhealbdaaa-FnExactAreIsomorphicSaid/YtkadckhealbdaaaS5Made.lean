/- Colourings made edge by edge. No condition. -/
import Derived.Test.YtkadckhealbdaaaS3Part
namespace Go.Proofs.Ytkadckhealbdaaa
open Go Go.RowKit Eng Mem
set_option maxRecDepth 100000
def col0 : Col := ⟨0, 0, List.replicate 136 0⟩
theorem col0_ok : col0.Ok := ⟨by simp [col0], by simp [col0], by simp [col0], by simp [col0], by simp [col0], by simp [col0]⟩
theorem build0_run (w : World) : (Instr.build tC #[]).run Try.prog w = .ok col0.val w := by kernel_rfl
theorem build2_run (n k : Int) (w : World) : (Instr.build tC #[(0, .int .i64 n), (1, .int .i64 k)]).run Try.prog w = .ok (⟨n, k, List.replicate 136 0⟩ : Col).val w := by kernel_rfl
theorem build0 {w : World} {K : Value → World → Prop} (hK : K col0.val w) : Pr Try.prog (Instr.build tC #[]) w (.one .any) K := ⟨_, w, build0_run w, hK⟩
theorem build2 {w : World} {n k : Int} {K : Value → World → Prop} (hK : K (⟨n, k, List.replicate 136 0⟩ : Col).val w) : Pr Try.prog (Instr.build tC #[(0, .int .i64 n), (1, .int .i64 k)]) w (.one .any) K := ⟨_, w, build2_run n k w, hK⟩
/-- A variable of a colouring, at a block at B or above. -/
structure CVar (B : Nat) (w : World) (p : Value) : Prop where
  ex : ∃ b l, p = ptr b 0 ∧ B ≤ b ∧ Blk w b l tC ∧ l.length = zC.length
theorem CVar.keep {B : Nat} {w w' : World} {p : Value} (h : CVar B w p) (hb : Below w.heap.size w w') : CVar B w' p := by
  obtain ⟨b, l, hp, hB, hl, hn⟩ := h
  exact ⟨b, l, hp, hB, below_at hb hl (at_lt hl), hn⟩
theorem CVar.mono {B B' : Nat} {w : World} {p : Value} (h : CVar B w p) (hb : B' ≤ B) : CVar B' w p := by
  obtain ⟨b, l, hp, hB, hl, hn⟩ := h
  exact ⟨b, l, hp, by omega, hl, hn⟩
theorem CVar.mod {B b : Nat} {w w' : World} {p : Value} (h : CVar B w p) (m : Mod [b] w w') (hne : p ≠ ptr b 0) : CVar B w' p := by
  obtain ⟨b', l, rfl, hB, hl, hn⟩ := h
  exact ⟨b', l, rfl, hB, m.at_ hl (by simp; rintro rfl; exact hne rfl), hn⟩
theorem CVar.ne {B b : Nat} {w : World} {p : Value} (h : CVar B w p) (hb : w.heap.size ≤ b) : p ≠ ptr b 0 := by
  obtain ⟨b', l, rfl, hB, hl, hn⟩ := h
  have := at_lt hl
  intro he
  injection he with he; injection he with he; injection he with he
  omega
/-- The result's variable. -/
theorem c_alloc {w : World} {K : Value → World → Prop} (hK : ∀ p w', Below w.heap.size w w' → CVar w.heap.size w' p → K p w') : Pr Try.prog (Instr.alloc tC true (.tuple #[])) w (.one .any) K :=
  allocA yC fun b w' hn => hK _ w' hn.below ⟨b, zC, rfl, by have := hn.here; omega, hn.at_, rfl⟩
/-- The result's variable is filled, and read. -/
theorem c_ret {B : Nat} {w : World} {p : Value} {c : Col} {K : Value → World → Prop} (h : c.Ok) (hv : CVar B w p) (hB : B ≤ w.heap.size) (hK : ∀ w', Below B w w' → K c.val w') :
    PrU Try.prog (Instr.storeAt tC p c.val) w fun w1 => QSub Try.prog (Instr.loadAt tC p) w1 .any fun r => K r w1 := by
  obtain ⟨b, l, rfl, hb, hl, hn⟩ := hv
  exact stA0 yC hl h.cells_len (by rw [h.cells_len, hn]) c.cells_one fun w2 m hs hb2 => ldA yC h.cells_len (blk_row hb2) (hK w2 (m.below (by omega) (by simp; omega)))
/-- The result is nothing. -/
theorem c_none {B : Nat} {w : World} {p : Value} {K : Value → World → Prop} (hv : CVar B w p) (hB : B ≤ w.heap.size) (hK : ∀ w', Below B w w' → K col0.val w') :
    Pr Try.prog (Instr.build tC #[]) w (.one .any) fun x w0 => PrU Try.prog (Instr.storeAt tC p x) w0 fun w1 => QSub Try.prog (Instr.loadAt tC p) w1 .any fun r => K r w1 :=
  build0 (c_ret col0_ok hv hB hK)

/-! ### Numbers of edges -/
theorem edgesOf_succ (j : Int) : edgesOf (j + 1) = edgesOf j + j := by
  unfold edgesOf
  rw [show (j + 1) * (j + 1 - 1) = j * (j - 1) + j * 2 from by rw [Int.add_sub_cancel, Int.add_mul, Int.mul_sub]; omega, Int.add_mul_ediv_right _ _ (by decide)]
theorem edgesOf_mono {j n : Int} (h0 : 0 ≤ j) (h : j ≤ n) : edgesOf j ≤ edgesOf n := by
  obtain ⟨d, rfl⟩ : ∃ d : Nat, n = j + d := ⟨(n - j).toNat, by omega⟩
  clear h
  induction d with
  | zero => simp
  | succ d ih =>
    have := edgesOf_succ (j + d)
    have e : (j : Int) + ((d + 1 : Nat) : Int) = j + d + 1 := by omega
    rw [e, this]
    omega
theorem edges_bd {n : Int} (h0 : 0 ≤ n) (h1 : n ≤ 17) : 0 ≤ edgesOf n ∧ edgesOf n ≤ 136 := by
  have h2 := edgesOf_mono (j := 0) (by omega) h0
  have h3 := edgesOf_mono h0 h1
  have e0 : edgesOf 0 = 0 := by decide
  have e1 : edgesOf 17 = 136 := by decide
  omega
theorem enum_eq (i j : Int) : enum i j = edgesOf j + i := rfl
theorem enum_lt {i j n : Int} (h0 : 0 ≤ i) (h1 : i < j) (h2 : j < n) (_h3 : n ≤ 17) : 0 ≤ enum i j ∧ enum i j < edgesOf n := by
  have h4 := edgesOf_mono (j := j + 1) (n := n) (by omega) (by omega)
  have h5 := edgesOf_succ j
  have h6 := edgesOf_mono (j := 0) (n := j) (by omega) (by omega)
  have e0 : edgesOf 0 = 0 := by decide
  rw [enum_eq]
  omega
/-- The number of the edge of two points. -/
def num (i j : Int) : Int := if i < j then enum i j else enum j i
theorem num_lt {i j n : Int} (h0 : 0 ≤ i) (h1 : i < n) (k0 : 0 ≤ j) (k1 : j < n) (hn : n ≤ 17) (hne : i ≠ j) : 0 ≤ num i j ∧ num i j < edgesOf n := by
  unfold num
  split
  · exact enum_lt h0 (by omega) k1 hn
  · exact enum_lt k0 (by omega) h1 hn
theorem num_of {i j : Int} (h : i < j) : num i j = enum i j := if_pos h
theorem wnum {i j : Int} (h0 : 0 ≤ i) (h1 : i ≤ 17) (k0 : 0 ≤ j) (k1 : j ≤ 17) : IntKind.i64.wrap (IntKind.i64.wrap (Int.tdiv (IntKind.i64.wrap (j * IntKind.i64.wrap (j - 1))) 2) + i) = enum i j := by
  rw [wedges k0 k1, enum_eq]
  have := edges_bd k0 k1
  exact wrap_small (by omega) (by omega)

/-! ### Colourings by a function of the edge's number -/
def esF (f : Nat → Int) (m : Nat) : List Int := (List.range 136).map fun e => if e < m then f e else 0
theorem esF_len (f : Nat → Int) (m : Nat) : (esF f m).length = 136 := by simp [esF]
theorem esF_0 (f : Nat → Int) : esF f 0 = List.replicate 136 0 := by
  apply List.ext_getElem
  · simp [esF]
  · intro i h1 h2; rw [List.getElem_replicate]; simp [esF]
theorem esF_set (f : Nat → Int) {m : Nat} (h : m < 136) : (esF f m).set m (f m) = esF f (m + 1) := by
  apply List.ext_getElem?
  intro i
  by_cases hi : i = m
  · subst hi
    rw [List.getElem?_set_self (by rw [esF_len]; exact h)]
    simp [esF, h]
  · rw [List.getElem?_set_ne (Ne.symm hi)]
    by_cases h2 : i < 136
    · simp only [esF, List.getElem?_map, List.getElem?_range h2, Option.map_some]
      congr 1
      by_cases h3 : i < m
      · rw [if_pos h3, if_pos (by omega)]
      · rw [if_neg h3, if_neg (by omega)]
    · rw [List.getElem?_eq_none (by rw [esF_len]; omega), List.getElem?_eq_none (by rw [esF_len]; omega)]
theorem esF_congr {f g : Nat → Int} {m : Nat} (h : ∀ e, e < m → f e = g e) : esF f m = esF g m := by
  unfold esF
  apply List.map_congr_left
  intro e _
  by_cases he : e < m
  · rw [if_pos he, if_pos he, h e he]
  · rw [if_neg he, if_neg he]
theorem esF_e (f : Nat → Int) (m : Nat) (n k : Int) (i : Nat) (hi : i < 136) : (⟨n, k, esF f m⟩ : Col).e i = if i < m then f i else 0 := by
  simp [Col.e, esF, hi]
def colF (n k : Int) (f : Nat → Int) : Col := ⟨n, k, esF f (edgesOf n).toNat⟩
theorem esF_byte {f : Nat → Int} {m : Nat} (h : ∀ e, e < m → 0 ≤ f e ∧ f e < 256) : ∀ x ∈ esF f m, 0 ≤ x ∧ x < 256 := by
  intro x hx
  obtain ⟨e, _, rfl⟩ := List.mem_map.1 hx
  by_cases he : e < m
  · simp only [he, if_true]; exact h e he
  · simp only [he, if_false]; omega
theorem colF_ok {n k : Int} {f : Nat → Int} (hn : I64 n) (hk : I64 k) (h : ∀ e, e < (edgesOf n).toNat → 0 ≤ f e ∧ f e < 256) : (colF n k f).Ok :=
  ⟨esF_len _ _, esF_byte h, hn.1, hn.2, hk.1, hk.2⟩
theorem colF_congr {n k : Int} {f g : Nat → Int} (h : ∀ e, e < (edgesOf n).toNat → f e = g e) : colF n k f = colF n k g := by unfold colF; rw [esF_congr h]
/-- A colouring being made: in block b. -/
abbrev BlkC (w : World) (b : Nat) (c : Col) : Prop := Blk w b c.cells tC
/-- An edge of a colouring in an own block is given a colour. -/
theorem put_e {w : World} {b : Nat} {n k x : Int} {es : List Int} {ik : IntKind} {i : Int} {K : World → Prop} (h : BlkC w b ⟨n, k, es⟩) (hl : es.length = 136) (h0 : 0 ≤ i) (h1 : i < 136)
    (hK : ∀ w', Mod [b] w w' → w'.heap.size = w.heap.size → BlkC w' b ⟨n, k, es.set i.toNat x⟩ → K w') :
    QAll Try.prog (Instr.indexAt tA (ptr b 2) (.int ik i)) .any fun p => PrU Try.prog (Instr.storeAt tB p (.int .u8 x)) w K := by
  refine ixRp yR h0 h1 (st yB h (by simp [Col.cells, hl]; omega) rfl fun w' m hs hb => hK w' m hs ?_)
  have : (⟨n, k, es⟩ : Col).cells.set (2 + i.toNat) (.int .u8 x) = (⟨n, k, es.set i.toNat x⟩ : Col).cells := by
    simp [Col.cells, Nat.add_comm 2, List.map_set]
  rw [this] at hb
  exact hb
theorem int_u8 {n : Int} {K : Int → Prop} (h0 : 0 ≤ n) (h1 : n < 256) (hK : K n) : QAll Try.prog (convert tI tB (.int .i64 n)) (.int .u8) K :=
  cvt (by rw [Try.underlyingTI]; rfl) Try.underlyingTB (by rwa [wrap_u8 h0 h1])
/-- A slice of an array: its first n places. -/
theorem slR {w : World} {p : Value} {vs : List Value} {ik : IntKind} {n : Int} {K : Value → Prop} (hp : Row w p vs) (hl : vs.length = 136) (h0 : 0 ≤ n) (h1 : n ≤ 136)
    (hK : ∀ v, (∀ w', Row w' p vs → Sl w' v 1 (vs.take n.toNat)) → K v) : QAll Try.prog (Instr.sliceAt tA p none (some (.int ik n)) none) .any K := by
  obtain ⟨a, rfl⟩ := hp.isPtr
  refine ⟨.slice (some a) n.toNat 136, fun w' => ?_, hK _ fun w' hr => ⟨some a, n.toNat, 136, rfl, by omega, by simp [hl]; omega, fun _ => ?_⟩⟩
  · have hs : (Try.prog.info? tB).map (·.size) = some 1 := yB.size
    have hle : n.toNat ≤ 136 := by omega
    unfold Instr.sliceAt
    simp [run_underlying Try.underlyingTA, Instr.sureAddr, Instr.sliceBounds, Instr.sliceBound, asIntOf, sizeOf_run hs, h0, h1]
    rfl
  · obtain ⟨b, off, cs, e, fz, hp, ha, hg⟩ := hr
    exact ⟨b, off, cs, e, fz, hp, ha, fun i hi => by
      simp only [List.length_take] at hi
      rw [hg i (by omega), List.getElem?_take_of_lt (by omega)]⟩
end Go.Proofs.Ytkadckhealbdaaa
