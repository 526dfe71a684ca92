/- The colourings with names. No condition. -/
import Derived.Test.YtdkodhonaoecnaaS7Sq
import Derived.Laws.Strings
namespace Go.Proofs.Ytdkodhonaoecnaa
open Go Go.RowKit Eng Mem
set_option maxRecDepth 100000
theorem ff {b : Bool} (h : b = false) : ¬ b = true := by simp [h]
theorem lenS {s : ByteArray} {t : TypeId} {K : Int → Prop} (hK : K (s.size : Int)) : QAll Try.prog (Builtin.len_ #[tS] t #[.string s]) (.int .i64) K :=
  ⟨_, fun w => run_len_string w tS t s Try.underlying9, hK⟩
/-- A literal's parts in their order. -/
theorem fill_all : ∀ (xs : List Value), (∀ x ∈ xs, x.cells = #[x]) → ∀ (done rest : List Value), rest.length = xs.length →
    Instr.fill (fun i => some (i * 1, 1)) (done ++ rest).toArray ((xs.zipIdx done.length).map fun t => (t.2, t.1)) = some (done ++ xs).toArray
  | [], _, done, rest, hr => by
    have : rest = [] := List.eq_nil_of_length_eq_zero hr
    subst this
    rfl
  | x :: xs, h, done, rest, hr => by
    match rest, hr with
    | r :: rest, hr =>
      have hx := h x (List.mem_cons_self ..)
      have ih := fill_all xs (fun y hy => h y (List.mem_cons_of_mem _ hy)) (done ++ [x]) rest (by simpa using hr)
      rw [List.zipIdx_cons, List.map_cons]
      unfold Instr.fill
      simp [hx]
      simpa using ih
/-- Are two strings the same? -/
theorem eqStr {ox oy : Operand} {a b : ByteArray} {K : Bool → Prop} (hK : K (a.toList == b.toList)) : QAll Try.prog (do eqGuard .eql tS ox oy (.string a) (.string b); binOp .eql tS (.string a) (.string b)) .bool K :=
  ⟨_, fun w => by
    rw [Sem.run_bind, show (eqGuard .eql tS ox oy (.string a) (.string b)).run Try.prog w = .ok () w from rfl, binOp_string_eql]
    rfl, hK⟩
def sixG (i j : Int) : Int := if [1, 8, 10, 12, 15].contains (xr i j) then 0 else if [2, 3, 7, 11, 13].contains (xr i j) then 1 else 2
def ciG (l : List Int) (i j : Int) : Int := if l.contains (j - i) then 0 else 1
def kindsL : List Int := [0, 0, 1, 1, 2, 2, 2, 1, 0, 2, 0, 1, 0, 1, 2, 0]
theorem ci_same : ∀ t ∈ [((5 : Int), [(1 : Int)], [(1 : Int), 4]), (8, [1, 4], [1, 4, 7]), (13, [1, 5], [1, 5, 8, 12]), (17, [1, 2, 4, 8], [1, 2, 4, 8, 9, 13, 15, 16])], ∀ i : Fin 17, ∀ j : Fin 17, i < j → (j.val : Int) < t.1 → ciG t.2.2 i.val j.val = diffG t.2.1 t.1 i.val j.val := by decide +kernel
theorem six_same : ∀ i : Fin 16, ∀ j : Fin 16, i < j → kindsL.getD (xr i.val j.val).toNat 0 = sixG i.val j.val := by decide +kernel
theorem ci_col {n : Int} {l l' : List Int} (h : (n, l, l') ∈ [((5 : Int), [(1 : Int)], [(1 : Int), 4]), (8, [1, 4], [1, 4, 7]), (13, [1, 5], [1, 5, 8, 12]), (17, [1, 2, 4, 8], [1, 2, 4, 8, 9, 13, 15, 16])]) (n0 : 0 ≤ n) (n1 : n ≤ 17) : colG n 2 (ciG l') = colG n 2 (diffG l n) :=
  colG_congr n0 n1 fun i j i0 i1 i2 => by
    have := ci_same _ h ⟨i.toNat, by omega⟩ ⟨j.toNat, by omega⟩ (by show i.toNat < j.toNat; omega) (by simp only; omega)
    simpa [Int.toNat_of_nonneg i0, Int.toNat_of_nonneg (Int.le_trans i0 (Int.le_of_lt i1))] using this
theorem six_col {i j : Int} (i0 : 0 ≤ i) (i1 : i < j) (i2 : j < 16) : kindsL.getD (xr i j).toNat 0 = sixG i j := by
  have := six_same ⟨i.toNat, by omega⟩ ⟨j.toNat, by omega⟩ (by show i.toNat < j.toNat; omega)
  simpa [Int.toNat_of_nonneg i0, Int.toNat_of_nonneg (Int.le_trans i0 (Int.le_of_lt i1))] using this
theorem sixG_bd (i j : Int) : 0 ≤ sixG i j ∧ sixG i j < 256 := by
  unfold sixG; split
  · omega
  · split <;> omega
theorem ciG_bd (l : List Int) (i j : Int) : 0 ≤ ciG l i j ∧ ciG l i j < 256 := by unfold ciG; split <;> omega
theorem six_ok : (colG 16 3 sixG).Ok := colG_ok (by omega) (by omega) (by omega) fun i j _ _ _ => sixG_bd i j
theorem ci_ok (l : List Int) {n : Int} (h0 : 0 ≤ n) (h1 : n ≤ 17) : (colG n 2 (ciG l)).Ok := colG_ok h0 h1 (by omega) fun i j _ _ _ => ciG_bd l i j
def namedC (s : ByteArray) : Col × Bool :=
  if s.toList == (⟨#[112, 101, 110, 116, 97, 103, 111, 110]⟩ : ByteArray).toList then (colG 5 2 (diffG [1] 5), true)
  else if s.toList == (⟨#[101, 105, 103, 104, 116]⟩ : ByteArray).toList then (colG 8 2 (diffG [1, 4] 8), true)
  else if s.toList == (⟨#[116, 104, 105, 114, 116, 101, 101, 110]⟩ : ByteArray).toList then (colG 13 2 (diffG [1, 5] 13), true)
  else if s.toList == (⟨#[115, 101, 118, 101, 110, 116, 101, 101, 110]⟩ : ByteArray).toList then (colG 17 2 (diffG [1, 2, 4, 8] 17), true)
  else if s.toList == (⟨#[115, 105, 120, 116, 101, 101, 110]⟩ : ByteArray).toList then (colG 16 3 sixG, true)
  else (col0, false)
theorem namedC_ok (s : ByteArray) : (namedC s).1.Ok := by
  unfold namedC
  split
  · exact diff_ok _ (by omega) (by omega)
  split
  · exact diff_ok _ (by omega) (by omega)
  split
  · exact diff_ok _ (by omega) (by omega)
  split
  · exact diff_ok _ (by omega) (by omega)
  split
  · exact six_ok
  · exact col0_ok
def namedF (s : ByteArray) : Col × Int := if (namedC s).2 then ((namedC s).1, 0) else (col0, 4)
theorem namedF_ok (s : ByteArray) : (namedF s).1.Ok := by
  unfold namedF; split
  · exact namedC_ok s
  · exact col0_ok
/-- A slice of bytes is read. -/
theorem atB {w : World} {v : Value} {l : List Int} {k : IntKind} {i : Int} {K : Int → Prop} (h : Sl w v 1 (l.map (Value.int .u8))) (h0 : 0 ≤ i) (h1 : i < l.length) (hK : K (l.getD i.toNat 0)) :
    QAll Try.prog (Instr.indexAt tSB v (.int k i)) .any fun p => QSub Try.prog (Instr.loadAt tB p) w (.int .u8) K :=
  ixS ySB h h0 (by simp; omega) fun p hp => by
    have hc : Cell w p (.int .u8 (l.getD i.toNat 0)) := hp [_] fun j hj => by
      have : j = 0 := by simp at hj; exact hj
      subst this
      have : i.toNat < l.length := by omega
      simp [this]
    exact ld yB hc hK
/-- A literal slice of integers. -/
theorem litI {w : World} (xs : List Int) {parts : Array (Nat × Value)} {n : Nat} {K : Value → World → Prop} (hn : xs.length = n) (hp : ∀ init : Array Value, init.size = n → Instr.fill (fun i => some (i * 1, 1)) init parts.toList = some (iv xs).toArray) (hs : n ≤ 1000)
    (hK : ∀ v w', Below w.heap.size w w' → SlI w' v xs → K v w') : Pr Try.prog (Instr.buildSlice tSI n parts) w (.one .any) K := by
  have hx : (iv xs).length = n := by rw [List.length_map, hn]
  have hnew := new_alloc w (.cells (iv xs).toArray tI)
  refine ⟨_, _, mk_run ySI (iv xs) hx hp (by omega) w, hK _ _ hnew.below ⟨?_, by omega⟩⟩
  exact (own_new (n := n) hnew.at_ (by omega) (by unfold maxLen; omega)).sl
theorem litB {w : World} (xs : List Int) {parts : Array (Nat × Value)} {n : Nat} {K : Value → World → Prop} (hn : xs.length = n) (hp : ∀ init : Array Value, init.size = n → Instr.fill (fun i => some (i * 1, 1)) init parts.toList = some (xs.map (Value.int .u8)).toArray) (hs : n ≤ 1000)
    (hK : ∀ v w', Below w.heap.size w w' → Sl w' v 1 (xs.map (Value.int .u8)) → K v w') : Pr Try.prog (Instr.buildSlice tSB n parts) w (.one .any) K := by
  have hx : (xs.map (Value.int .u8)).length = n := by rw [List.length_map, hn]
  have hnew := new_alloc w (.cells (xs.map (Value.int .u8)).toArray tB)
  refine ⟨_, _, mk_run ySB (xs.map (Value.int .u8)) hx hp (by omega) w, hK _ _ hnew.below ?_⟩
  exact (own_new (n := n) hnew.at_ (by omega) (by unfold maxLen; omega)).sl
theorem litI' {w : World} (xs : List Int) {parts : Array (Nat × Value)} {n : Nat} {K : Value → World → Prop} (hn : xs.length = n) (hp : parts.toList = ((iv xs).zipIdx 0).map fun t => (t.2, t.1)) (hs : n ≤ 1000)
    (hK : ∀ v w', Below w.heap.size w w' → SlI w' v xs → K v w') : Pr Try.prog (Instr.buildSlice tSI n parts) w (.one .any) K :=
  litI xs hn (fun init h => by
    rcases init with ⟨l⟩
    rw [hp]
    exact fill_all (iv xs) (fun x hx => by obtain ⟨_, _, rfl⟩ := List.mem_map.1 hx; rfl) [] l (by rw [List.length_map, hn]; exact h)) hs hK
theorem litB' {w : World} (xs : List Int) {parts : Array (Nat × Value)} {n : Nat} {K : Value → World → Prop} (hn : xs.length = n) (hp : parts.toList = ((xs.map (Value.int .u8)).zipIdx 0).map fun t => (t.2, t.1)) (hs : n ≤ 1000)
    (hK : ∀ v w', Below w.heap.size w w' → Sl w' v 1 (xs.map (Value.int .u8)) → K v w') : Pr Try.prog (Instr.buildSlice tSB n parts) w (.one .any) K :=
  litB xs hn (fun init h => by
    rcases init with ⟨l⟩
    rw [hp]
    exact fill_all (xs.map (Value.int .u8)) (fun x hx => by obtain ⟨_, _, rfl⟩ := List.mem_map.1 hx; rfl) [] l (by rw [List.length_map, hn]; exact h)) hs hK
/-- As Tri.put, and it is said what is turned. -/
theorem Tri.putM {w w1 : World} {p : Value} {b : Nat} {n k : Int} {g : Int → Int → Int} {i j : Int} {ik : IntKind} {K : World → Prop} (h : Tri w w1 p b n k g (edgesOf j + i)) (h0 : 0 ≤ i) (h1 : i < j) (h2 : j ≤ 16)
    (hK : ∀ w', Mod [b] w1 w' → w'.heap.size = w1.heap.size → Tri w w' p b n k g (edgesOf j + (i + 1)) → K w') :
    QAll Try.prog (Instr.indexAt tA (ptr b 2) (.int ik (num i j))) .any fun q => PrU Try.prog (Instr.storeAt tB q (.int .u8 (g i j))) w1 K := by
  have hn := enum_lt h0 h1 (n := 17) (by omega) (by omega)
  rw [show edgesOf 17 = 136 from by decide] at hn
  rw [num_of h1]
  refine put_e h.blk (esF_len _ _) hn.1 hn.2 fun w2 m hs h2' => hK w2 m hs ⟨h.bel.trans (m.below h.bel.size (by simp; exact h.lo)), h.var.mod m h.ne, ?_, h.lo, h.ne⟩
  have := esG_set (g := g) h0 h1 h2
  rw [num_of h1] at this
  rw [this] at h2'
  exact h2'
theorem tri_fromM {w w1 : World} {p : Value} {n k : Int} (g : Int → Int → Int) {K : Value → World → Prop} (hb1 : Below w.heap.size w w1) (hv : CVar w.heap.size w1 p) (hK : ∀ b w', w1.heap.size ≤ b → Below w1.heap.size w1 w' → Tri w w' p b n k g (edgesOf 1) → K (ptr b 0) w') :
    Pr Try.prog (Instr.build tC #[(0, .int .i64 n), (1, .int .i64 k)]) w1 (.one .any) fun x w2 => Pr Try.prog (Instr.alloc tC true (.tuple #[])) w2 (.one .any) fun o w3 => PrU Try.prog (Instr.storeAt tC o x) w3 fun w4 => K o w4 := by
  refine build2 (allocA yC fun b w2 n2 => ?_)
  have e2 := n2.here; have s2 := n2.size; have hs1 := hb1.size
  have hne := hv.ne (Nat.le_of_eq e2.symm)
  refine stA0 yC n2.at_ (by simp [Col.cells, zC, zA]) (by simp [Col.cells, zC, zA]) (Col.cells_one _) fun w3 m3 s3 h3 => hK b w3 (by omega) (n2.below.trans (m3.below (by omega) (by simp; omega))) ⟨?_, (hv.keep n2.below).mod m3 hne, ?_, by omega, hne⟩
  · exact (hb1.trans (n2.below.mono hs1)).trans (m3.below (by omega) (by simp; omega))
  · rw [show (edgesOf 1).toNat = 0 from by decide, esF_0]; exact h3
end Go.Proofs.Ytdkodhonaoecnaa
