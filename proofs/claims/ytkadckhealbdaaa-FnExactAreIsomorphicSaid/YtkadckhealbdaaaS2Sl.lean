/- Slices of int64 as plain lists. No condition. -/
import Derived.Test.YtkadckhealbdaaaS1Col
import Derived.Lib.SliceRun
namespace Go.Proofs.Ytkadckhealbdaaa
open Go Go.RowKit Eng Mem
set_option maxRecDepth 100000
abbrev iv (l : List Int) : List Value := l.map (Value.int .i64)
structure SlI (w : World) (v : Value) (l : List Int) : Prop where
  sl : Sl w v 1 (iv l)
  len : l.length ≤ 4611686018427387904
/-- Each is an int64. -/
def InI (l : List Int) : Prop := ∀ x ∈ l, -9223372036854775808 ≤ x ∧ x ≤ 9223372036854775807
abbrev OwnI (w : World) (b : Nat) (v : Value) (l : List Int) : Prop := Own w b tI 1 v l.length (iv l)
theorem SlI.keep {w w' : World} {v : Value} {l : List Int} (h : SlI w v l) (hb : Below w.heap.size w w') : SlI w' v l := ⟨h.sl.keep hb, h.len⟩
theorem own_slI {w : World} {b : Nat} {v : Value} {l : List Int} (h : OwnI w b v l) (hl : l.length ≤ 4611686018427387904) : SlI w v l := ⟨h.sl, hl⟩
theorem slI_nil (w : World) : SlI w (.slice none 0 0) [] := ⟨Sl.nil w 1, by simp⟩
theorem iv_one (l : List Int) : ∀ u ∈ iv l, u.oneCell' = true := fun u hu => by obtain ⟨e, _, rfl⟩ := List.mem_map.1 hu; rfl
theorem iv_get (l : List Int) {i : Nat} (h : i < l.length) : (iv l)[i]? = some (.int .i64 (l.getD i 0)) := by simp [iv, h]
theorem lenI {w : World} {v : Value} {l : List Int} {t : TypeId} {K : Int → Prop} (h : SlI w v l) (hK : K (l.length : Int)) : QAll Try.prog (Builtin.len_ #[tSI] t #[v]) (.int .i64) K :=
  len ySI h.sl (by simpa using hK)
/-- An element's place. -/
theorem ixI {w : World} {v : Value} {l : List Int} {k : IntKind} {i : Int} {K : Value → Prop} (h : SlI w v l) (h0 : 0 ≤ i) (h1 : i < l.length) (hK : ∀ p, Cell w p (.int .i64 (l.getD i.toNat 0)) → K p) :
    QAll Try.prog (Instr.indexAt tSI v (.int k i)) .any K :=
  ixS ySI h.sl h0 (by simp; omega) fun p hp => hK p (hp [_] fun j hj => by
    have : j = 0 := by simp at hj; exact hj
    subst this
    rw [Nat.mul_one, Nat.add_zero, iv_get l (by omega)]
    rfl)
/-- An element is read. -/
theorem atI {w : World} {v : Value} {l : List Int} {k : IntKind} {i : Int} {K : Int → Prop} (h : SlI w v l) (h0 : 0 ≤ i) (h1 : i < l.length) (hK : K (l.getD i.toNat 0)) :
    QAll Try.prog (Instr.indexAt tSI v (.int k i)) .any fun p => QSub Try.prog (Instr.loadAt tI p) w (.int .i64) K :=
  ixI h h0 h1 fun p hp => ld yI hp hK
/-- An element of an own slice: its place. -/
theorem ixO {w : World} {b : Nat} {v : Value} {l : List Int} {k : IntKind} {i : Int} {K : Value → Prop} (h : OwnI w b v l) (h0 : 0 ≤ i) (h1 : i < l.length) (hK : K (ptr b i.toNat)) :
    QAll Try.prog (Instr.indexAt tSI v (.int k i)) .any K := by
  obtain ⟨cap, l', rfl, hb, _⟩ := h.blk
  refine ⟨ptr b i.toNat, fun w' => ?_, hK⟩
  have hs : (Try.prog.info? tI).map (·.size) = some 1 := yI.size
  unfold Instr.indexAt
  simp [asIntOf, run_underlying ySI.und, sizeOf_run hs, h0, h1, add_none]
/-- An element of an own slice is written. -/
theorem putI {w : World} {b : Nat} {v : Value} {l : List Int} {k : IntKind} {i x : Int} {K : World → Prop} (h : OwnI w b v l) (h0 : 0 ≤ i) (h1 : i < l.length)
    (hK : ∀ w', Mod [b] w w' → w'.heap.size = w.heap.size → OwnI w' b v (l.set i.toNat x) → K w') :
    QAll Try.prog (Instr.indexAt tSI v (.int k i)) .any fun p => PrU Try.prog (Instr.storeAt tI p (.int .i64 x)) w K := by
  refine ixO h h0 h1 ?_
  obtain ⟨cap, l', hv, hb, ht, hl⟩ := h.blk
  refine st yI hb (by rw [Nat.mul_one] at hl; omega) rfl fun w' m hs hb' => hK w' m hs ?_
  have := h.set (u := .int .i64 x) hb hb'
  rw [← List.map_set] at this
  rwa [OwnI, List.length_set]
theorem mk_slice_run {P : Program} {t e : TypeId} {bytes : Nat} {z : Value} (ht : TyS P t e 1 bytes z) {k k' : IntKind} {n : Int} (h0 : 0 ≤ n) (h1 : n * (bytes + 1) ≤ 140737488355328) (hz : z.cells = #[z]) (w : World) :
    (Instr.makeSlice t (.int k n) (.int k' n)).run P w = .ok (.slice (some ⟨w.heap.size, 0, none⟩) n.toNat n.toNat) (w.alloc (.cells (List.replicate n.toNat z).toArray e)) := by
  obtain ⟨i, hi, hzi, hs, hb⟩ := ht.parts
  have hb1 : (0 : Int) ≤ n * bytes := Int.mul_nonneg h0 (by omega)
  have hbb : (i.bytes : Int) * n + n ≤ 140737488355328 := by rw [hb, Int.mul_comm]; rw [Int.mul_add, Int.mul_one] at h1; exact h1
  have hb2 : (0 : Int) ≤ i.bytes * n := by rw [hb, Int.mul_comm]; exact hb1
  rw [run_make (P := P) w t e i z ht.und hi hzi k k' n n h0 (Int.le_refl _) (by omega) (by omega), hs, Nat.mul_one]
  have : madeCells z.cells n.toNat = (List.replicate n.toNat z).toArray := by
    rw [hz]
    unfold madeCells
    apply Array.ext
    · simp
    · intro i h1 h2
      simp [Nat.mod_one]
  rw [this]
/-- A slice of noughts is made. -/
theorem mkI {w : World} {k k' : IntKind} {n : Int} {K : Value → World → Prop} (h0 : 0 ≤ n) (h1 : n ≤ 1099511627776) (hK : ∀ b v w', New w w' b (.cells (iv (List.replicate n.toNat 0)).toArray tI) → OwnI w' b v (List.replicate n.toNat 0) → K v w') :
    Pr Try.prog (Instr.makeSlice tSI (.int k n) (.int k' n)) w (.one .any) K := by
  refine ⟨_, _, mk_slice_run ySI h0 (by omega) rfl w, ?_⟩
  have e : iv (List.replicate n.toNat 0) = List.replicate n.toNat (.int .i64 0) := by simp [iv]
  have hn := new_alloc w (.cells (List.replicate n.toNat (.int .i64 0)).toArray tI)
  refine hK w.heap.size _ _ (by rw [e]; exact hn) ?_
  unfold OwnI
  rw [e, List.length_replicate]
  exact own_new hn.at_ (by simp) (by unfold maxLen; omega)
/-- An empty slice. -/
theorem nilI {w : World} {K : Value → World → Prop} (hK : ∀ b v w', w.heap.size = b → Below w.heap.size w w' → OwnI w' b v [] → K v w') : Pr Try.prog (Instr.buildSlice tSI 0 #[]) w (.one .any) K :=
  mk0 ySI fun b w' hn ho => hK b _ w' hn.here.symm hn.below ho
/-- One more at the end. -/
theorem appI {w : World} {b : Nat} {v : Value} {l : List Int} {x : Int} {t : TypeId} {K : Value → World → Prop} (h : OwnI w b v l) (hl : l.length ≤ 1099511627776)
    (hK : ∀ v' w' b', OwnI w' b' v' (l ++ [x]) → Mod [b] w w' → (b' = b ∨ w.heap.size ≤ b') → K v' w') :
    Pr Try.prog (Instr.buildSlice tSI 1 #[(0, .int .i64 x)]) w (.one .any) fun y w1 => Pr Try.prog (Builtin.append_ #[tSI, tSI] t #[v, y]) w1 (.one .any) K := by
  refine mk1 ySI rfl fun b1 w1 hn ho => ?_
  have h1 : OwnI w1 b v l := h.keep hn.below
  have hs : SlI w1 (.slice (some ⟨b1, 0, none⟩) 1 1) [x] := ⟨ho.sl, by simp⟩
  have e1 := hn.here; have s1 := hn.size; have lt := h.lt
  refine app ySI 1 h1 hs.sl (by simp) (iv_one _) (by omega) fun v' w' b' o m hb => hK v' w' b' ?_ ((hn.mod.mono (by simp)).trans m) (by omega)
  unfold OwnI
  rw [List.length_append, iv, List.map_append]
  exact o
/-- A slice's elements at the end of an own one. -/
theorem appsI {w : World} {b : Nat} {v y : Value} {l m : List Int} {t : TypeId} {K : Value → World → Prop} (h : OwnI w b v l) (hy : SlI w y m) (hl : l.length + m.length ≤ 1099511627776)
    (hK : ∀ v' w' b', OwnI w' b' v' (l ++ m) → Mod [b] w w' → (b' = b ∨ w.heap.size ≤ b') → K v' w') :
    Pr Try.prog (Builtin.append_ #[tSI, tSI] t #[v, y]) w (.one .any) K := by
  refine app ySI m.length h hy.sl (by simp) (iv_one _) (by omega) fun v' w' b' o mm hb => hK v' w' b' ?_ mm hb
  unfold OwnI
  rw [List.length_append, iv, List.map_append]
  exact o
/-- w' is w but for blocks from B up to E, and new ones. -/
structure ModR (B E : Nat) (w w' : World) : Prop where
  os : w'.os = w.os
  tape : w'.tape = w.tape
  output : w'.output = w.output
  size : w.heap.size ≤ w'.heap.size
  block : ∀ k, k < w.heap.size → (k < B ∨ E ≤ k) → w'.heap[k]? = w.heap[k]?
theorem ModR.refl (B E : Nat) (w : World) : ModR B E w w := ⟨rfl, rfl, rfl, Nat.le_refl _, fun _ _ _ => rfl⟩
theorem Mem.Mod.r {b B E : Nat} {w w' : World} (h : Mod [b] w w') (hb : B ≤ b) (he : b < E) : ModR B E w w' := ⟨h.os, h.tape, h.output, h.size, fun k hk hn => h.block k hk (by simp; omega)⟩
theorem ModR.below {B E B0 : Nat} {w w' : World} (h : ModR B E w w') (hB : B0 ≤ B) (hs : B0 ≤ w.heap.size) : Below B0 w w' := ⟨h.os, h.tape, h.output, h.size, fun k hk => h.block k (by omega) (by omega)⟩
theorem Mem.Row.modr {b off B E : Nat} {w w' : World} {vs : List Value} (h : Row w (ptr b off) vs) (m : ModR B E w w') (hd : b < B ∨ E ≤ b) : Row w' (ptr b off) vs := by
  obtain ⟨b', off', cs, e, fz, hp, ha, hr⟩ := h
  injection hp with hp; injection hp with hp; injection hp with h1 h2 _
  subst h1; subst h2
  exact ⟨_, _, cs, e, fz, rfl, by rw [m.block _ (at_lt ha) hd]; exact ha, hr⟩
theorem Mem.Own.modr {b B E e size n : Nat} {w w' : World} {v : Value} {xs : List Value} (h : Own w b e size v n xs) (m : ModR B E w w') (hd : b < B ∨ E ≤ b) : Own w' b e size v n xs := by
  obtain ⟨cap, l', hv, hb, r⟩ := h
  exact ⟨cap, l', hv, by unfold Blk; rw [m.block b (at_lt hb) hd]; exact hb, r⟩
/-- A slice of own: nil, or in a block from B up to E. -/
def MyI (B E : Nat) (w : World) (v : Value) (l : List Int) : Prop := l.length ≤ 1099511627776 ∧ ((v = .slice none 0 0 ∧ l = []) ∨ ∃ b, B ≤ b ∧ b < E ∧ OwnI w b v l)
theorem MyI.len {B E : Nat} {w : World} {v : Value} {l : List Int} (h : MyI B E w v l) : l.length ≤ 1099511627776 := h.1
theorem MyI.sl {B E : Nat} {w : World} {v : Value} {l : List Int} (h : MyI B E w v l) : SlI w v l := by
  rcases h with ⟨hl, ⟨rfl, rfl⟩ | ⟨b, _, _, h⟩⟩
  · exact slI_nil w
  · exact own_slI h (by omega)
theorem MyI.keep {B E : Nat} {w w' : World} {v : Value} {l : List Int} (h : MyI B E w v l) (hb : Below w.heap.size w w') : MyI B E w' v l := by
  rcases h with ⟨hl, h | ⟨b, hB, hE, h⟩⟩
  · exact ⟨hl, .inl h⟩
  · exact ⟨hl, .inr ⟨b, hB, hE, h.keep hb⟩⟩
theorem MyI.modr {B E B' E' : Nat} {w w' : World} {v : Value} {l : List Int} (h : MyI B E w v l) (m : ModR B' E' w w') (hd : E ≤ B' ∨ E' ≤ B) : MyI B E w' v l := by
  rcases h with ⟨hl, h | ⟨b, hB, hE, h⟩⟩
  · exact ⟨hl, .inl h⟩
  · exact ⟨hl, .inr ⟨b, hB, hE, h.modr m (by omega)⟩⟩
theorem MyI.mono {B E B' E' : Nat} {w : World} {v : Value} {l : List Int} (h : MyI B E w v l) (hb : B' ≤ B) (he : E ≤ E') : MyI B' E' w v l := by
  rcases h with ⟨hl, h | ⟨b, hB, hE, h⟩⟩
  · exact ⟨hl, .inl h⟩
  · exact ⟨hl, .inr ⟨b, by omega, by omega, h⟩⟩
theorem myI_nil (B E : Nat) (w : World) : MyI B E w (.slice none 0 0) [] := ⟨by simp, .inl ⟨rfl, rfl⟩⟩
theorem own_my {B E b : Nat} {w : World} {v : Value} {l : List Int} (h : OwnI w b v l) (hl : l.length ≤ 1099511627776) (hB : B ≤ b) (hE : b < E) : MyI B E w v l := ⟨hl, .inr ⟨b, hB, hE, h⟩⟩
/-- What a function of lists may take. -/
structure ArgI (w : World) (v : Value) (l : List Int) : Prop where
  sl : SlI w v l
  len : l.length ≤ 1048576
  ins : InI l
theorem ArgI.keep {w w' : World} {v : Value} {l : List Int} (h : ArgI w v l) (hb : Below w.heap.size w w') : ArgI w' v l := ⟨h.sl.keep hb, h.len, h.ins⟩
abbrev I64 (n : Int) : Prop := -9223372036854775808 ≤ n ∧ n ≤ 9223372036854775807
/-- k, k + 1 and so on. -/
def upto (k : Int) (n : Nat) : List Int := (List.range n).map fun i : Nat => k + (i : Int)
/-- A variable of a colouring, filled at once. -/
theorem col_var {w : World} {c : Col} {K : Value → World → Prop} (h : c.Ok) (hK : ∀ b w', w.heap.size ≤ b → b < w'.heap.size → Below w.heap.size w w' → ColAt w' (ptr b 0) c → K (ptr b 0) w') :
    Pr Try.prog (Instr.alloc tC true (.tuple #[])) w (.one .any) fun p w1 => PrU Try.prog (Instr.storeAt tC p c.val) w1 fun w2 => K p w2 :=
  allocA yC fun b w1 n1 => stA0 yC n1.at_ h.cells_len (by rw [h.cells_len]) c.cells_one fun w2 m hs hb => by
    have e1 := n1.here; have s1 := n1.size
    exact hK b w2 (by omega) (at_lt hb) (n1.below.trans (m.below (by omega) (by simp; omega))) (blk_row hb)
/-- A law's colouring, boxed. -/
theorem colL_box {w : World} {c : Col} {K : Value → World → Prop} (hK : ∀ b w', w.heap.size ≤ b → b < w'.heap.size → Below w.heap.size w w' → ColAt w' (ptr b 0) c → K (ptr b 0) w') : Pr Try.prog (Instr.box tCL c.val) w (.one .any) K :=
  box c.cells rfl fun b w' hn => hK b w' (Nat.le_of_eq hn.here.symm) (at_lt hn.at_) hn.below (row_all hn.at_)
theorem colL_all {w : World} {p : Value} {c : Col} {K : Value → Prop} (h : c.Ok) (hx : ColAt w p c) (hK : K c.val) : QSub Try.prog (Instr.loadAt tCL p) w .any K :=
  ldA yCL h.cells_len hx hK
/-- Is it nil? -/
theorem nil_I {w : World} {v : Value} {l : List Int} {ox oy : Operand} {K : Bool → Prop} (h : SlI w v l) (hK : ∀ b : Bool, (b = true → l = []) → K b) :
    QAll Try.prog (do eqGuard .eql tSI ox oy v (.slice none 0 0); binOp .eql tSI v (.slice none 0 0)) .bool K := by
  obtain ⟨a, n, c, rfl, hnc, hn, hr⟩ := h.sl
  refine ⟨a.isNone, fun w' => ?_, hK _ fun ha => ?_⟩
  · rw [Sem.run_bind, show (eqGuard .eql tSI ox oy (.slice a n c) (.slice none 0 0)).run Try.prog w' = .ok () w' from rfl]
    exact Lib.run_eql_slice_nil w' _ _ a n c 0 0 ySI.und
  · cases a with
    | some _ => cases ha
    | none =>
      rcases l with _ | ⟨x, l⟩
      · rfl
      · obtain ⟨_, _, _, _, _, he, _⟩ := hr (by simp)
        cases he
/-- A slice of two. -/
theorem twoI {w : World} {x y : Int} {K : Value → World → Prop} (hK : ∀ v w', Below w.heap.size w w' → SlI w' v [x, y] → K v w') : Pr Try.prog (Instr.buildSlice tSI 2 #[(0, .int .i64 x), (1, .int .i64 y)]) w (.one .any) K :=
  mk2 ySI rfl rfl fun b w' hn ho => hK _ w' hn.below ⟨ho.sl, by simp⟩
end Go.Proofs.Ytkadckhealbdaaa
