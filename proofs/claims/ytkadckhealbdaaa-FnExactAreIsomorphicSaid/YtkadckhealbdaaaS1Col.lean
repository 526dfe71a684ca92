/- Colourings as plain data, and how they lie in memory. No condition. -/
import Derived.Test.YtkadckhealbdaaaTy
namespace Go.Proofs.Ytkadckhealbdaaa
open Go Go.RowKit Eng Mem
set_option maxRecDepth 100000

structure Col where
  n : Int
  k : Int
  es : List Int
deriving DecidableEq
def Col.cells (c : Col) : List Value := .int .i64 c.n :: .int .i64 c.k :: c.es.map (Value.int .u8)
def Col.val (c : Col) : Value := .agg c.cells.toArray
structure Col.Ok (c : Col) : Prop where
  len : c.es.length = 136
  byte : ∀ e ∈ c.es, 0 ≤ e ∧ e < 256
  n0 : -9223372036854775808 ≤ c.n
  n1 : c.n ≤ 9223372036854775807
  k0 : -9223372036854775808 ≤ c.k
  k1 : c.k ≤ 9223372036854775807
def Col.e (c : Col) (i : Nat) : Int := c.es.getD i 0
/-- How many edges there are between so many points. -/
def edgesOf (n : Int) : Int := n * (n - 1) / 2
/-- The number of the edge of i and j, i less than j. -/
def enum (i j : Int) : Int := j * (j - 1) / 2 + i
def Col.Is (c : Col) : Prop := 1 ≤ c.n ∧ c.n ≤ 17 ∧ 1 ≤ c.k ∧ c.k ≤ 4 ∧ ∀ i : Nat, i < 136 → if (i : Int) < edgesOf c.n then c.e i < c.k else c.e i = 0
instance (c : Col) : Decidable c.Is := by unfold Col.Is; infer_instance
theorem edges_le {n : Int} (h0 : 1 ≤ n) (h1 : n ≤ 17) : 0 ≤ edgesOf n ∧ edgesOf n ≤ 136 := by
  have : n = 1 ∨ n = 2 ∨ n = 3 ∨ n = 4 ∨ n = 5 ∨ n = 6 ∨ n = 7 ∨ n = 8 ∨ n = 9 ∨ n = 10 ∨ n = 11 ∨ n = 12 ∨ n = 13 ∨ n = 14 ∨ n = 15 ∨ n = 16 ∨ n = 17 := by omega
  rcases this with h | h | h | h | h | h | h | h | h | h | h | h | h | h | h | h | h <;> subst h <;> decide
theorem Col.Ok.e_bd {c : Col} (h : c.Ok) (i : Nat) : 0 ≤ c.e i ∧ c.e i < 256 := by
  unfold Col.e
  by_cases hi : i < c.es.length
  · rw [List.getD_eq_getElem?_getD, List.getElem?_eq_getElem hi]
    exact h.byte _ (List.getElem_mem hi)
  · rw [List.getD_eq_getElem?_getD, List.getElem?_eq_none (by omega)]
    simp
abbrev ColAt (w : World) (p : Value) (c : Col) : Prop := Row w p c.cells
theorem Col.Ok.cells_len {c : Col} (h : c.Ok) : c.cells.length = zC.length := by
  simp [Col.cells, h.len, zC, zA]
theorem Col.cells_one (c : Col) : ∀ v ∈ c.cells, v.oneCell' = true := by
  intro v hv
  simp only [Col.cells, List.mem_cons, List.mem_map] at hv
  rcases hv with rfl | rfl | ⟨e, _, rfl⟩ <;> rfl
theorem col_n {w : World} {p : Value} {c : Col} {K : Int → Prop} (hx : ColAt w p c) (hK : K c.n) : QAll Try.prog (Instr.fieldAt tC p 0) .any fun q => QSub Try.prog (Instr.loadAt tI q) w (.int .i64) K :=
  fld f0 hx.nonnil hx.isPtr (ld yI (hx.get 0 rfl) hK)
theorem col_k {w : World} {p : Value} {c : Col} {K : Int → Prop} (hx : ColAt w p c) (hK : K c.k) : QAll Try.prog (Instr.fieldAt tC p 1) .any fun q => QSub Try.prog (Instr.loadAt tI q) w (.int .i64) K :=
  fld f1 hx.nonnil hx.isPtr (ld yI (hx.get 1 rfl) hK)
theorem Col.es_row {w : World} {p : Value} {c : Col} (hx : ColAt w p c) : Row w (padd p 2) (c.es.map (Value.int .u8)) :=
  hx.sub 2 fun i hi => by simp [Col.cells, Nat.add_comm 2 i]
theorem Col.e_get {c : Col} (h : c.Ok) {i : Nat} (hi : i < 136) : (c.es.map (Value.int .u8))[i]? = some (.int .u8 (c.e i)) := by
  have : i < c.es.length := by rw [h.len]; exact hi
  simp [Col.e, this]
theorem es_e {w : World} {q : Value} {c : Col} {ik : IntKind} {i : Int} {K : Int → Prop} (h : c.Ok) (hq : Row w q (c.es.map (Value.int .u8))) (h0 : 0 ≤ i) (h1 : i < 136) (hK : K (c.e i.toNat)) : QAll Try.prog (Instr.indexAt tA q (.int ik i)) .any fun r => QSub Try.prog (Instr.loadAt tB r) w (.int .u8) K :=
  ixR yR hq.isPtr h0 h1 (ld yB (by rw [Nat.mul_one]; exact hq.get _ (Col.e_get h (by omega))) hK)
theorem col_e {w : World} {p : Value} {c : Col} {ik : IntKind} {i : Int} {K : Int → Prop} (h : c.Ok) (hx : ColAt w p c) (h0 : 0 ≤ i) (h1 : i < 136) (hK : K (c.e i.toNat)) :
    QAll Try.prog (Instr.fieldAt tC p 2) .any fun q => QAll Try.prog (Instr.indexAt tA q (.int ik i)) .any fun r => QSub Try.prog (Instr.loadAt tB r) w (.int .u8) K :=
  fld f2 hx.nonnil hx.isPtr (es_e h (Col.es_row hx) h0 h1 hK)
theorem col_all {w : World} {p : Value} {c : Col} {K : Value → Prop} (h : c.Ok) (hx : ColAt w p c) (hK : K c.val) : QSub Try.prog (Instr.loadAt tC p) w .any K :=
  ldA yC h.cells_len hx hK
theorem col_box {w : World} {c : Col} {K : Value → World → Prop} (hK : ∀ b w', New w w' b (.cells c.cells.toArray tC) → ColAt w' (ptr b 0) c → K (ptr b 0) w') : Pr Try.prog (Instr.box tC c.val) w (.one .any) K :=
  box c.cells rfl fun b w' hn => hK b w' hn (row_all hn.at_)
theorem u8_int {n : Int} {K : Int → Prop} (h0 : 0 ≤ n) (h1 : n < 256) (hK : K n) : QAll Try.prog (convert tB tI (.int .u8 n)) (.int .i64) K :=
  cvt (by rw [Try.underlyingTB]; rfl) Try.underlyingTI (by rwa [wrap_small (by omega) (by omega)])
/-- What a place of the edges must hold. -/
def Col.at_ (c : Col) (i : Nat) : Prop := if (i : Int) < edgesOf c.n then c.e i < c.k else c.e i = 0
theorem wedges {n : Int} (h0 : 0 ≤ n) (h1 : n ≤ 17) : IntKind.i64.wrap (Int.tdiv (IntKind.i64.wrap (n * IntKind.i64.wrap (n - 1))) 2) = edgesOf n := by
  have : n = 0 ∨ n = 1 ∨ n = 2 ∨ n = 3 ∨ n = 4 ∨ n = 5 ∨ n = 6 ∨ n = 7 ∨ n = 8 ∨ n = 9 ∨ n = 10 ∨ n = 11 ∨ n = 12 ∨ n = 13 ∨ n = 14 ∨ n = 15 ∨ n = 16 ∨ n = 17 := by omega
  rcases this with h | h | h | h | h | h | h | h | h | h | h | h | h | h | h | h | h | h <;> subst h <;> decide
theorem Col.is_false {c : Col} (h : ¬ c.Is) : decide c.Is = false := decide_eq_false h
theorem Col.is_true {c : Col} (h : c.Is) : decide c.Is = true := decide_eq_true h
theorem Col.Ok.es_len {c : Col} (h : c.Ok) : (c.es.map (Value.int .u8)).length = zA.length := by simp [h.len, zA]
end Go.Proofs.Ytkadckhealbdaaa
