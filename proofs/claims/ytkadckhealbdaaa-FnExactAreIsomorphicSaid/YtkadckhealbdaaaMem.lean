/- The rules of memory for the readings: what is read, written and made, said of whole blocks. No condition. -/
import Derived.Test.YtkadckhealbdaaaEng
import Derived.Laws.OwnMore
import Derived.Laws.MakeOwn
import Derived.Laws.CopyRow
import Derived.Laws.Rows
import Derived.Laws.Entries
import Derived.OwnWalk
import Derived.IntWalk
import Derived.Laws.Small
namespace Go.Proofs.Ytkadckhealbdaaa.Mem
open Go Go.RowKit Eng

abbrev ptr (b off : Nat) : Value := .pointer (some ⟨b, off, none⟩)

/-! ### Worlds that keep blocks -/
/-- w' is w but for the blocks in S, and new ones. -/
structure Mod (S : List Nat) (w w' : World) : Prop where
  os : w'.os = w.os
  tape : w'.tape = w.tape
  output : w'.output = w.output
  size : w.heap.size ≤ w'.heap.size
  block : ∀ k, k < w.heap.size → k ∉ S → w'.heap[k]? = w.heap[k]?
theorem Mod.refl (S : List Nat) (w : World) : Mod S w w := ⟨rfl, rfl, rfl, Nat.le_refl _, fun _ _ _ => rfl⟩
theorem Mod.mono {S S' : List Nat} {w w' : World} (h : Mod S w w') (hs : ∀ k ∈ S, k ∈ S' ∨ w.heap.size ≤ k) : Mod S' w w' :=
  ⟨h.os, h.tape, h.output, h.size, fun k hk hn => h.block k hk fun hm => by rcases hs k hm with h' | h' <;> first | exact hn h' | omega⟩
theorem Mod.trans {S : List Nat} {a b c : World} (h : Mod S a b) (k : Mod S b c) : Mod S a c :=
  ⟨k.os.trans h.os, k.tape.trans h.tape, k.output.trans h.output, Nat.le_trans h.size k.size, fun i hi hn => (k.block i (Nat.lt_of_lt_of_le hi h.size) hn).trans (h.block i hi hn)⟩
/-- The second step may turn what S names, and what the first has made. -/
theorem Mod.andThen {S S' : List Nat} {a b c : World} (h : Mod S a b) (k : Mod S' b c) (hs : ∀ i ∈ S', i ∈ S ∨ a.heap.size ≤ i) : Mod S a c :=
  ⟨k.os.trans h.os, k.tape.trans h.tape, k.output.trans h.output, Nat.le_trans h.size k.size, fun i hi hn =>
    (k.block i (Nat.lt_of_lt_of_le hi h.size) (fun hm => by rcases hs i hm with h' | h' <;> first | exact hn h' | omega)).trans (h.block i hi hn)⟩
theorem Mod.below {S : List Nat} {w w' : World} (h : Mod S w w') {B : Nat} (hB : B ≤ w.heap.size) (hs : ∀ k ∈ S, B ≤ k) : Below B w w' :=
  ⟨h.os, h.tape, h.output, h.size, fun k hk => h.block k (by omega) fun hm => by have := hs k hm; omega⟩
theorem Mod.nil {w w' : World} (h : Mod [] w w') : Below w.heap.size w w' := h.below (Nat.le_refl _) (fun _ hm => by cases hm)
theorem mod_of_below {w w' : World} (h : Below w.heap.size w w') (S : List Nat) : Mod S w w' := ⟨h.os, h.tape, h.output, h.size, fun k hk _ => h.block k hk⟩
theorem Mod.at_ {S : List Nat} {w w' : World} (h : Mod S w w') {b : Nat} {o : Obj} (hb : w.heap[b]? = some o) (hn : b ∉ S) : w'.heap[b]? = some o := by
  rw [h.block b (Array.getElem?_eq_some_iff.1 hb).1 hn]; exact hb
theorem below_at {B : Nat} {w w' : World} (h : Below B w w') {b : Nat} {o : Obj} (hb : w.heap[b]? = some o) (hn : b < B) : w'.heap[b]? = some o := by
  rw [h.block b hn]; exact hb
theorem at_lt {w : World} {b : Nat} {o : Obj} (h : w.heap[b]? = some o) : b < w.heap.size := (Array.getElem?_eq_some_iff.1 h).1
/-- A new block. -/
structure New (w w' : World) (b : Nat) (o : Obj) : Prop where
  here : b = w.heap.size
  size : w'.heap.size = w.heap.size + 1
  at_ : w'.heap[b]? = some o
  mod : Mod [] w w'
theorem new_alloc (w : World) (o : Obj) : New w (w.alloc o) w.heap.size o :=
  ⟨rfl, by show (w.heap.push o).size = _; simp, heap_alloc_new w o, ⟨rfl, rfl, rfl, by show _ ≤ (w.heap.push o).size; simp, fun k hk _ => heap_alloc_old w o k hk⟩⟩
theorem New.below {w w' : World} {b : Nat} {o : Obj} (h : New w w' b o) : Below w.heap.size w w' := h.mod.nil

/-! ### What may be read -/
/-- From the pointer p on lie these values. -/
structure Row (w : World) (p : Value) (vs : List Value) : Prop where
  ex : ∃ b off cs e fz, p = ptr b off ∧ w.heap[b]? = some (.cells cs e fz) ∧ ∀ i, i < vs.length → cs[off + i]? = vs[i]?
abbrev Cell (w : World) (p v : Value) : Prop := Row w p [v]
theorem Row.keep {w w' : World} {p : Value} {vs : List Value} (h : Row w p vs) (hb : Below w.heap.size w w') : Row w' p vs := by
  obtain ⟨b, off, cs, e, fz, hp, ha, hr⟩ := h
  exact ⟨b, off, cs, e, fz, hp, below_at hb ha (at_lt ha), hr⟩
theorem Row.mod {w w' : World} {b off : Nat} {vs : List Value} {S : List Nat} (h : Row w (ptr b off) vs) (hb : Mod S w w') (hn : b ∉ S) : Row w' (ptr b off) vs := by
  obtain ⟨b', off', cs, e, fz, hp, ha, hr⟩ := h
  injection hp with hp; injection hp with hp; injection hp with h1 h2 _
  subst h1; subst h2
  exact ⟨_, _, cs, e, fz, rfl, hb.at_ ha hn, hr⟩
theorem row_of {w : World} {b : Nat} {cs : Array Value} {e : Nat} {fz : Nat × Nat} (ha : w.heap[b]? = some (.cells cs e fz)) (off : Nat) (vs : List Value) (h : ∀ i, i < vs.length → cs[off + i]? = vs[i]?) : Row w (ptr b off) vs :=
  ⟨b, off, cs, e, fz, rfl, ha, h⟩
theorem row_all {w : World} {b : Nat} {cs : List Value} {e : Nat} {fz : Nat × Nat} (ha : w.heap[b]? = some (.cells cs.toArray e fz)) : Row w (ptr b 0) cs :=
  row_of ha 0 cs fun i _ => by simp
theorem Row.nonnil {w : World} {p : Value} {vs : List Value} (h : Row w p vs) : NilOk p := by
  obtain ⟨b, off, _, _, _, rfl, _⟩ := h; exact .inl ⟨_, rfl⟩
/-- A pointer moved on by k cells. -/
def padd (p : Value) (k : Nat) : Value :=
  match p with
  | .pointer (some a) => .pointer (some (a.add k))
  | v => v
theorem add_none (b off k : Nat) : (⟨b, off, none⟩ : Addr).add k = ⟨b, off + k, none⟩ := by unfold Addr.add; split <;> simp_all
theorem Row.sub {w : World} {p : Value} {vs : List Value} (h : Row w p vs) (k : Nat) {us : List Value} (hk : ∀ i, i < us.length → vs[k + i]? = us[i]?) : Row w (padd p k) us := by
  obtain ⟨b, off, cs, e, fz, rfl, ha, hr⟩ := h
  refine ⟨b, off + k, cs, e, fz, by simp [padd, add_none], ha, fun i hi => ?_⟩
  have h1 := hk i hi
  have h2 : k + i < vs.length := by
    rw [List.getElem?_eq_getElem hi] at h1
    exact (List.getElem?_eq_some_iff.1 h1).1
  rw [Nat.add_assoc, hr _ h2, h1]
theorem Row.get {w : World} {p : Value} {vs : List Value} (h : Row w p vs) (k : Nat) {v : Value} (hk : vs[k]? = some v) : Cell w (padd p k) v :=
  h.sub k fun i hi => by simp at hi; subst hi; simpa using hk

/-! ### Kinds of types, as the program's tables have them -/
def aggD : TypeDesc → Bool
  | .struct _ | .array _ _ => true
  | _ => false
/-- A type of one cell. -/
structure Ty1 (P : Program) (t : TypeId) (z : Value) (bytes : Nat) : Prop where
  und : ∃ d, P.underlying t = some d ∧ aggD d = false
  info : (P.info? t).map (fun i => (i.zero, i.size, i.bytes)) = some (some z, 1, bytes)
  one : z.oneCell' = true
/-- A type of several cells. -/
structure TyA (P : Program) (t : TypeId) (z : List Value) : Prop where
  und : ∃ d, P.underlying t = some d ∧ aggD d = true
  info : (P.info? t).map (fun i => (i.zero, i.size)) = some (some (.agg z.toArray), z.length)
/-- A slice type and its elements. -/
structure TyS (P : Program) (t e : TypeId) (size bytes : Nat) (z : Value) : Prop where
  und : P.underlying t = some (.slice e)
  info : (P.info? e).map (fun i => (i.zero, i.size, i.bytes)) = some (some z, size, bytes)
  zs : z.cells.size = size
  pos : 0 < size
theorem isAgg_run {P : Program} {t : TypeId} {d : TypeDesc} (h : P.underlying t = some d) (w : World) : (isAgg t).run P w = .ok (aggD d) w := by
  unfold isAgg
  simp only [Sem.run_bind, run_underlying h, Result.andThen_ok]
  cases d <;> rfl
theorem loadVar_one {P : Program} {t : TypeId} {z : Value} {n : Nat} (ht : Ty1 P t z n) (a : Addr) (w : World) : (loadVar t a).run P w = (load a).run P w := by
  obtain ⟨d, hd, hf⟩ := ht.und
  unfold loadVar
  rw [Sem.run_bind, isAgg_run hd, hf]
  rfl
theorem sizeOf_run {P : Program} {t : TypeId} {n : Nat} (h : (P.info? t).map (·.size) = some n) (w : World) : (sizeOf t).run P w = .ok n w := by
  obtain ⟨i, hi, hs⟩ := Option.map_eq_some_iff.1 h
  simp [sizeOf, typeInfo, hi, hs]
theorem Ty1.size {P : Program} {t : TypeId} {z : Value} {n : Nat} (ht : Ty1 P t z n) : (P.info? t).map (·.size) = some 1 := by
  obtain ⟨i, hi, hs⟩ := Option.map_eq_some_iff.1 ht.info
  injection hs with _ hs; injection hs with hs _
  rw [hi]; exact congrArg some hs
theorem TyA.size {P : Program} {t : TypeId} {z : List Value} (ht : TyA P t z) : (P.info? t).map (·.size) = some z.length := by
  obtain ⟨i, hi, hs⟩ := Option.map_eq_some_iff.1 ht.info
  injection hs with _ hs
  rw [hi]; exact congrArg some hs

/-! ### Loads -/
theorem ld_run {P : Program} {w : World} {p v : Value} {t : TypeId} {z : Value} {n : Nat} (ht : Ty1 P t z n) (h : Cell w p v) : (Instr.loadAt t p).run P w = .ok v w := by
  obtain ⟨b, off, cs, e, fz, rfl, ha, hr⟩ := h
  have h0 := hr 0 (by simp)
  simp only [Nat.add_zero, List.getElem?_cons_zero] at h0
  unfold Instr.loadAt
  simp only [Instr.sureAddr, Sem.run_bind, Sem.run_pure, Result.andThen_ok]
  rw [loadVar_one ht, run_load]
  simp [World.cell?, ha, h0]
/-- A cell is read. -/
theorem ld {P : Program} {w : World} {p : Value} {t : TypeId} {z : Value} {n : Nat} {k : TK} {x : k.T} {K : k.T → Prop} (ht : Ty1 P t z n) (h : Cell w p (k.val x)) (hK : K x) : QSub P (Instr.loadAt t p) w k K :=
  ⟨x, fun _ hb => ld_run ht (h.keep hb), hK⟩
theorem ldA_run {P : Program} {w : World} {p : Value} {vs : List Value} {t : TypeId} {z : List Value} (ht : TyA P t z) (hl : vs.length = z.length) (h : Row w p vs) : (Instr.loadAt t p).run P w = .ok (.agg vs.toArray) w := by
  obtain ⟨b, off, cs, e, fz, rfl, ha, hr⟩ := h
  obtain ⟨d, hd, hf⟩ := ht.und
  unfold Instr.loadAt
  simp only [Instr.sureAddr, Sem.run_bind, Sem.run_pure, Result.andThen_ok, loadVar, isAgg_run hd, hf, if_true, sizeOf_run ht.size]
  rw [← hl, run_loadCells_list w ⟨b, off, none⟩ vs (fun j v hv => by
    rw [add_none]
    have hj : j < vs.length := (List.getElem?_eq_some_iff.1 hv).1
    simp [World.cell?, ha, hr j hj, hv])]
  rfl
/-- A struct or an array is read whole. -/
theorem ldA {P : Program} {w : World} {p : Value} {vs : List Value} {t : TypeId} {z : List Value} {K : Value → Prop} (ht : TyA P t z) (hl : vs.length = z.length) (h : Row w p vs) (hK : K (.agg vs.toArray)) : QSub P (Instr.loadAt t p) w .any K :=
  ⟨.agg vs.toArray, fun _ hb => ldA_run ht hl (h.keep hb), hK⟩

/-! ### Addresses -/
/-- A field of a struct type: how far in it lies. -/
structure TyF (P : Program) (s : TypeId) (f off : Nat) : Prop where
  ex : ∃ fs fd, P.underlying s = some (.struct fs) ∧ fs[f]? = some fd ∧ fd.offset = off ∧ ∃ n, (P.info? fd.type).map (·.size) = some (n + 1)
theorem fld {P : Program} {s : TypeId} {f off : Nat} {p : Value} {K : Value → Prop} (ht : TyF P s f off) (hp : NilOk p) (hf : ∃ a, p = .pointer (some a)) (hK : K (padd p off)) : QAll P (Instr.fieldAt s p f) .any K := by
  obtain ⟨a, rfl⟩ := hf
  obtain ⟨fs, fd, hu, hg, rfl, n, hn⟩ := ht.ex
  refine ⟨padd (.pointer (some a)) fd.offset, fun w => ?_, hK⟩
  unfold Instr.fieldAt
  simp [run_underlying hu, hg, Instr.sureAddr, fieldPlace, sizeOf_run hn, padd]
theorem Row.isPtr {w : World} {p : Value} {vs : List Value} (h : Row w p vs) : ∃ a, p = .pointer (some a) := by
  obtain ⟨b, off, _, _, _, rfl, _⟩ := h; exact ⟨_, rfl⟩
/-- An array type and its elements. -/
structure TyR (P : Program) (t e : TypeId) (len size : Nat) : Prop where
  und : P.underlying t = some (.array len e)
  size : (P.info? e).map (·.size) = some size
  long : 2 ≤ len
theorem ixR {P : Program} {t e : TypeId} {len size : Nat} {p : Value} {k : IntKind} {i : Int} {K : Value → Prop} (ht : TyR P t e len size) (hp : ∃ a, p = .pointer (some a)) (h0 : 0 ≤ i) (h1 : i < len) (hK : K (padd p (i.toNat * size))) :
    QAll P (Instr.indexAt t p (.int k i)) .any K := by
  obtain ⟨a, rfl⟩ := hp
  refine ⟨padd (.pointer (some a)) (i.toNat * size), fun w => ?_, hK⟩
  unfold Instr.indexAt
  simp [asIntOf, run_underlying ht.und, Instr.sureAddr, sizeOf_run ht.size, padd, h0, h1]

/-! ### Slices -/
/-- A slice that reads as these values, an element size cells. -/
structure Sl (w : World) (v : Value) (size : Nat) (vs : List Value) : Prop where
  ex : ∃ a n c, v = .slice a n c ∧ n ≤ c ∧ vs.length = n * size ∧ (vs ≠ [] → Row w (.pointer a) vs)
theorem Sl.keep {w w' : World} {v : Value} {size : Nat} {vs : List Value} (h : Sl w v size vs) (hb : Below w.heap.size w w') : Sl w' v size vs := by
  obtain ⟨a, n, c, hv, hc, hn, hr⟩ := h
  exact ⟨a, n, c, hv, hc, hn, fun hne => (hr hne).keep hb⟩
theorem Sl.nil (w : World) (size : Nat) : Sl w (.slice none 0 0) size [] := ⟨none, 0, 0, rfl, Nat.le_refl _, by simp, fun h => absurd rfl h⟩
theorem ixS {P : Program} {t e : TypeId} {size bytes : Nat} {z : Value} {w : World} {v : Value} {vs : List Value} {k : IntKind} {i : Int} {K : Value → Prop} (ht : TyS P t e size bytes z) (h : Sl w v size vs) (h0 : 0 ≤ i) (h1 : i.toNat * size < vs.length)
    (hK : ∀ p, (∀ us : List Value, (∀ j, j < us.length → vs[i.toNat * size + j]? = us[j]?) → Row w p us) → K p) : QAll P (Instr.indexAt t v (.int k i)) .any K := by
  obtain ⟨a, n, c, rfl, hc, hn, hr⟩ := h
  have hr := hr (by intro he; rw [he] at h1; simp at h1)
  obtain ⟨b, off, cs, e', fz, hp, ha, hg⟩ := id hr
  injection hp with hp
  subst hp
  have hin : i < n := by
    rw [hn] at h1
    have := Nat.lt_of_mul_lt_mul_right h1
    omega
  obtain ⟨d, hi, hd⟩ := Option.map_eq_some_iff.1 ht.info
  have hs : (P.info? e).map (·.size) = some size := by rw [hi]; injection hd with _ hd; injection hd with hd _; exact congrArg some hd
  refine ⟨padd (ptr b off) (i.toNat * size), fun w => ?_, hK _ fun us hus => hr.sub _ hus⟩
  unfold Instr.indexAt
  simp [asIntOf, run_underlying ht.und, sizeOf_run hs, padd, h0, hin]
theorem len_run {P : Program} {t e : TypeId} {size bytes : Nat} {z : Value} {w : World} {v : Value} {vs : List Value} {ty : TypeId} (ht : TyS P t e size bytes z) (h : Sl w v size vs) (w' : World) :
    (Builtin.len_ #[t] ty #[v]).run P w' = .ok (.int .i64 ((vs.length / size : Nat) : Int)) w' := by
  obtain ⟨a, n, c, rfl, hc, hn, hr⟩ := h
  unfold Builtin.len_
  simp [run_underlying ht.und, goInt, hn, Nat.mul_div_cancel n ht.pos]
theorem len {P : Program} {t e : TypeId} {size bytes : Nat} {z : Value} {w : World} {v : Value} {vs : List Value} {ty : TypeId} {K : Int → Prop} (ht : TyS P t e size bytes z) (h : Sl w v size vs) (hK : K ((vs.length / size : Nat) : Int)) :
    QAll P (Builtin.len_ #[t] ty #[v]) (.int .i64) K := ⟨_, fun w' => len_run ht h w', hK⟩

/-! ### Own blocks: made by the call, and written -/
abbrev Blk (w : World) (b : Nat) (l : List Value) (e : Nat) : Prop := w.heap[b]? = some (.cells l.toArray e (0, 0))
theorem blk_row {w : World} {b e : Nat} {l : List Value} (h : Blk w b l e) : Row w (ptr b 0) l := row_all h
theorem mod_setRow {w : World} {b e : Nat} {l l' : List Value} (h : Blk w b l e) : Mod [b] w (w.setRow b l'.toArray) ∧ Blk (w.setRow b l'.toArray) b l' e :=
  ⟨⟨rfl, rfl, rfl, by simp, fun k _ hn => setRow_other w b k _ (by simpa using hn)⟩, setRow_heap w b _ _ e _ h⟩
theorem size_setRow' (w : World) (b : Nat) (l : Array Value) : (w.setRow b l).heap.size = w.heap.size := size_setRow w b l
/-- A cell of an own block is written. -/
theorem st {P : Program} {w : World} {b off e : Nat} {l : List Value} {t : TypeId} {z v : Value} {n : Nat} {K : World → Prop} (ht : Ty1 P t z n) (ha : Blk w b l e) (ho : off < l.length) (hv : v.oneCell' = true)
    (hK : ∀ w', Mod [b] w w' → w'.heap.size = w.heap.size → Blk w' b (l.set off v) e → K w') : PrU P (Instr.storeAt t (ptr b off) v) w K := by
  obtain ⟨m, hb⟩ := mod_setRow (l' := l.set off v) ha
  refine ⟨w.setRow b (l.set off v).toArray, ?_, hK _ m (size_setRow' _ _ _) hb⟩
  have hc : v.cells = #[v] := by cases v <;> first | rfl | cases hv
  unfold Instr.storeAt
  simp only [Instr.sureAddr, Sem.run_bind, Sem.run_pure, Result.andThen_ok, storeVar, sizeOf_run ht.size, hc, List.size_toArray, List.length_singleton, ne_eq, not_true, if_false, Sem.run_ite]
  have := run_storeCells_at (P := P) b off e [v] 0 l.toArray w ha (by simp; omega) (by simp [hv])
  simp only [Nat.add_zero, List.length_singleton] at this
  have hl : l.take off ++ [v] ++ l.drop (off + 1) = l.set off v := by
    rw [List.set_eq_take_append_cons_drop, if_pos ho]; simp
  rw [hl] at this
  exact this
/-- A struct or an array is written whole. -/
theorem stA {P : Program} {w : World} {b e : Nat} {l vs : List Value} {t : TypeId} {z : List Value} {K : World → Prop} (ht : TyA P t z) (off : Nat) (ha : Blk w b l e) (hl : vs.length = z.length) (ho : off + vs.length ≤ l.length) (hv : ∀ v ∈ vs, v.oneCell' = true)
    (hK : ∀ w', Mod [b] w w' → w'.heap.size = w.heap.size → Blk w' b (l.take off ++ vs ++ l.drop (off + vs.length)) e → K w') : PrU P (Instr.storeAt t (ptr b off) (.agg vs.toArray)) w K := by
  obtain ⟨m, hb⟩ := mod_setRow (l' := l.take off ++ vs ++ l.drop (off + vs.length)) ha
  refine ⟨w.setRow b (l.take off ++ vs ++ l.drop (off + vs.length)).toArray, ?_, hK _ m (size_setRow' _ _ _) hb⟩
  unfold Instr.storeAt
  simp only [Instr.sureAddr, Sem.run_bind, Sem.run_pure, Result.andThen_ok, storeVar, sizeOf_run ht.size, Value.cells, List.size_toArray, ← hl, ne_eq, not_true, if_false, Sem.run_ite]
  have := run_storeCells_at (P := P) b off e vs 0 l.toArray w ha (by simpa using ho) hv
  simp only [Nat.add_zero] at this
  exact this
theorem stA0 {P : Program} {w : World} {b e : Nat} {l vs : List Value} {t : TypeId} {z : List Value} {K : World → Prop} (ht : TyA P t z) (ha : Blk w b l e) (hl : vs.length = z.length) (ho : vs.length = l.length) (hv : ∀ v ∈ vs, v.oneCell' = true)
    (hK : ∀ w', Mod [b] w w' → w'.heap.size = w.heap.size → Blk w' b vs e → K w') : PrU P (Instr.storeAt t (ptr b 0) (.agg vs.toArray)) w K :=
  stA ht 0 ha hl (by omega) hv fun w' m hs hb => hK w' m hs (by simpa [ho, List.drop_length] using hb)

/-! ### New blocks -/
theorem newVar_run (P : Program) (t : TypeId) (v : Value) (w : World) : (newVar t v).run P w = .ok ⟨w.heap.size, 0, none⟩ (w.alloc (.cells v.cells t)) := rfl
theorem box {P : Program} {w : World} {e : TypeId} {v : Value} {K : Value → World → Prop} (l : List Value) (hv : v.cells = l.toArray) (hK : ∀ b w', New w w' b (.cells l.toArray e) → K (ptr b 0) w') : Pr P (Instr.box e v) w (.one .any) K := by
  refine ⟨ptr w.heap.size 0, w.alloc (.cells v.cells e), rfl, ?_⟩
  rw [hv]; exact hK _ _ (new_alloc w _)
theorem zero_run {P : Program} {t : TypeId} {z : Value} (h : (P.info? t).map (·.zero) = some (some z)) (w : World) : (zeroValue t).run P w = .ok z w := by
  obtain ⟨i, hi, hs⟩ := Option.map_eq_some_iff.1 h
  simp [zeroValue, typeInfo, hi, hs]
theorem alloc {P : Program} {w : World} {t : TypeId} {z : Value} {K : Value → World → Prop} (l : List Value) (h : (P.info? t).map (·.zero) = some (some z)) (hz : z.cells = l.toArray) (hK : ∀ b w', New w w' b (.cells l.toArray t) → K (ptr b 0) w') :
    Pr P (Instr.alloc t true (.tuple #[])) w (.one .any) K := by
  refine ⟨ptr w.heap.size 0, w.alloc (.cells z.cells t), ?_, by rw [hz]; exact hK _ _ (new_alloc w _)⟩
  unfold Instr.alloc
  simp only [Sem.run_bind, zero_run h, Result.andThen_ok]
  rfl
theorem Ty1.zero {P : Program} {t : TypeId} {z : Value} {n : Nat} (ht : Ty1 P t z n) : (P.info? t).map (·.zero) = some (some z) := by
  obtain ⟨i, hi, hs⟩ := Option.map_eq_some_iff.1 ht.info
  injection hs with hs _
  rw [hi]; exact congrArg some hs
theorem TyA.zero {P : Program} {t : TypeId} {z : List Value} (ht : TyA P t z) : (P.info? t).map (·.zero) = some (some (.agg z.toArray)) := by
  obtain ⟨i, hi, hs⟩ := Option.map_eq_some_iff.1 ht.info
  injection hs with hs _
  rw [hi]; exact congrArg some hs
theorem alloc1 {P : Program} {w : World} {t : TypeId} {z : Value} {n : Nat} {K : Value → World → Prop} (ht : Ty1 P t z n) (hK : ∀ b w', New w w' b (.cells [z].toArray t) → K (ptr b 0) w') : Pr P (Instr.alloc t true (.tuple #[])) w (.one .any) K :=
  alloc [z] ht.zero (by have := ht.one; cases z <;> first | rfl | cases this) hK
theorem allocA {P : Program} {w : World} {t : TypeId} {z : List Value} {K : Value → World → Prop} (ht : TyA P t z) (hK : ∀ b w', New w w' b (.cells z.toArray t) → K (ptr b 0) w') : Pr P (Instr.alloc t true (.tuple #[])) w (.one .any) K :=
  alloc z ht.zero rfl hK

/-! ### Slices of the call's own -/
/-- Block b holds the array of the slice v, whose n elements (size cells each) are these. -/
structure Own (w : World) (b e size : Nat) (v : Value) (n : Nat) (xs : List Value) : Prop where
  ex : ∃ cap l, v = .slice (some ⟨b, 0, none⟩) n cap ∧ Blk w b l e ∧ n ≤ cap ∧ cap ≤ maxLen ∧ l.length = cap * size ∧ l.take (n * size) = xs ∧ xs.length = n * size
theorem Own.len {w : World} {b e size n : Nat} {v : Value} {xs : List Value} (h : Own w b e size v n xs) : xs.length = n * size := by
  obtain ⟨_, _, _, _, _, _, _, _, h⟩ := h; exact h
theorem Own.row {w : World} {b e size n : Nat} {v : Value} {xs : List Value} (h : Own w b e size v n xs) : Row w (ptr b 0) xs := by
  obtain ⟨cap, l, rfl, hb, _, _, hl, rfl, hx⟩ := h
  refine row_of hb 0 _ fun i hi => ?_
  have : i < n * size := by rw [hx] at hi; exact hi
  simp [this]
theorem Own.sl {w : World} {b e size n : Nat} {v : Value} {xs : List Value} (h : Own w b e size v n xs) : Sl w v size xs := by
  obtain ⟨cap, l, rfl, hb, hc, hm, hl, ht, hx⟩ := id h
  exact ⟨_, _, _, rfl, hc, hx, fun _ => h.row⟩
theorem Own.lt {w : World} {b e size n : Nat} {v : Value} {xs : List Value} (h : Own w b e size v n xs) : b < w.heap.size := by
  obtain ⟨cap, l, rfl, hb, _⟩ := h; exact at_lt hb
theorem Own.mod {w w' : World} {b e size n : Nat} {v : Value} {xs : List Value} {S : List Nat} (h : Own w b e size v n xs) (m : Mod S w w') (hn : b ∉ S) : Own w' b e size v n xs := by
  obtain ⟨cap, l, hv, hb, r⟩ := h
  exact ⟨cap, l, hv, m.at_ hb hn, r⟩
theorem Own.keep {w w' : World} {b e size n : Nat} {v : Value} {xs : List Value} (h : Own w b e size v n xs) (m : Below w.heap.size w w') : Own w' b e size v n xs :=
  h.mod (mod_of_below m []) (by simp)
theorem own_new {w : World} {b e size n : Nat} {xs : List Value} (h : Blk w b xs e) (hx : xs.length = n * size) (hm : n ≤ maxLen) : Own w b e size (.slice (some ⟨b, 0, none⟩) n n) n xs :=
  ⟨n, xs, rfl, h, Nat.le_refl _, hm, hx, by rw [← hx, List.take_length], hx⟩
/-- An element of an own slice of one-cell elements is written. -/
theorem Own.set {w w' : World} {b e n : Nat} {v u : Value} {xs : List Value} {i : Nat} (h : Own w b e 1 v n xs) {l : List Value} (hl : Blk w b l e) (hb : Blk w' b (l.set i u) e) : Own w' b e 1 v n (xs.set i u) := by
  obtain ⟨cap, l', rfl, hb', hc, hm, hll, ht, hx⟩ := h
  have : l = l' := by
    have h1 := hl.symm.trans hb'
    injection h1 with h1
    injection h1 with h1
    exact congrArg Array.toList h1
  subst this
  refine ⟨cap, _, rfl, hb, hc, hm, by simpa using hll, ?_, by simpa using hx⟩
  rw [← ht, List.take_set]
theorem Own.blk {w : World} {b e size n : Nat} {v : Value} {xs : List Value} (h : Own w b e size v n xs) : ∃ cap l, v = .slice (some ⟨b, 0, none⟩) n cap ∧ Blk w b l e ∧ l.take (n * size) = xs ∧ n * size ≤ l.length := by
  obtain ⟨cap, l, hv, hb, hc, hm, hl, ht, hx⟩ := h
  exact ⟨cap, l, hv, hb, ht, by rw [hl]; exact Nat.mul_le_mul_right _ hc⟩
theorem TyS.parts {P : Program} {t e : TypeId} {size bytes : Nat} {z : Value} (ht : TyS P t e size bytes z) : ∃ i, P.info? e = some i ∧ i.zero = some z ∧ i.size = size ∧ i.bytes = bytes := by
  obtain ⟨i, hi, hd⟩ := Option.map_eq_some_iff.1 ht.info
  injection hd with h1 hd; injection hd with h2 h3
  exact ⟨i, hi, h1, h2, h3⟩
/-- What an append leaves. -/
def AppR (S : List Nat) (b0 : Option Nat) (w : World) (e size n : Nat) (xs : List Value) (v' : Value) (w' : World) : Prop :=
  ∃ b', Own w' b' e size v' n xs ∧ Mod S w w' ∧ (some b' = b0 ∨ w.heap.size ≤ b')
theorem app_run {P : Program} {w : World} {t e ty : TypeId} {size bytes : Nat} {z : Value} (ht : TyS P t e size bytes z) {b n m : Nat} {v y : Value} {xs ys : List Value} (h : Own w b e size v n xs) (hy : Sl w y size ys) (hm : ys.length = m * size) (h1 : ∀ u ∈ ys, u.oneCell' = true)
    (hbig : (n + m) * (bytes + 1) ≤ 140737488355328) : ∃ v' w', (Builtin.append_ #[t, t] ty #[v, y]).run P w = .ok v' w' ∧ AppR [b] (some b) w e size (n + m) (xs ++ ys) v' w' := by
  obtain ⟨i, hi, hz, rfl, rfl⟩ := ht.parts
  obtain ⟨cap, l, rfl, hb, hc, hcm, hl, htk, hx⟩ := id h
  obtain ⟨ao, m', c, rfl, hmc, hlen, hr⟩ := hy
  have hmm : m' = m := Nat.mul_right_cancel ht.pos (hlen.symm.trans hm)
  subst hmm
  have hle : n + m' ≤ 140737488355328 := Nat.le_trans (Nat.le_mul_of_pos_right _ (Nat.succ_pos _)) hbig
  have hby : (n + m') * i.bytes ≤ 140737488355328 := Nat.le_trans (Nat.mul_le_mul_left _ (Nat.le_succ _)) hbig
  have hmx : n + m' ≤ maxLen := by unfold maxLen; omega
  by_cases hnil : ys = []
  · subst hnil
    have hm0 : m' = 0 := by
      have : m' * i.size = 0 := by rw [← hm]; rfl
      rcases Nat.mul_eq_zero.1 this with h | h
      · exact h
      · exact absurd h (Nat.pos_iff_ne_zero.1 ht.pos)
    subst hm0
    refine ⟨_, w, ?_, b, by simpa using h, Mod.refl _ _, .inl rfl⟩
    have hcell : ∀ j u, ([] : List Value)[j]? = some u → w.cell? ((ao.getD ⟨0, 0, none⟩).add j) = some u := fun j u h => by simp at h
    cases ao with
    | none => simp [Builtin.append_, run_underlying ht.und, sizeOf, typeInfo, hi, Builtin.lenOf, Builtin.firstCells, hc, storeCells]
    | some a => simp [Builtin.append_, run_underlying ht.und, sizeOf, typeInfo, hi, Builtin.lenOf, Builtin.firstCells, hc, storeCells, loadCells, loadCellsFrom]
  · obtain ⟨b2, off2, cs2, e2, fz2, hp, ha2, hr2⟩ := hr hnil
    injection hp with hp
    subst hp
    have hcell : ∀ j u, ys[j]? = some u → w.cell? ((⟨b2, off2, none⟩ : Addr).add j) = some u := fun j u hu => by
      have hj : j < ys.length := (List.getElem?_eq_some_iff.1 hu).1
      rw [add_none]; simp [World.cell?, ha2, hr2 j hj, hu]
    have hlen2 : (xs ++ ys).length = (n + m') * i.size := by rw [List.length_append, hx, hm, Nat.add_mul]
    by_cases hroom : n + m' ≤ cap
    · have hfit : n * i.size + ys.length ≤ l.toArray.size := by simp only [List.size_toArray]; rw [hm, hl, ← Nat.add_mul]; exact Nat.mul_le_mul_right _ hroom
      have hrun := run_append_room (P := P) w t ty e i ht.und hi b n cap l.toArray hb ⟨b2, off2, none⟩ m' c ys hm hcell h1 hroom hfit
      obtain ⟨mm, hb'⟩ := mod_setRow (l' := l.take (n * i.size) ++ ys ++ l.drop (n * i.size + ys.length)) hb
      refine ⟨_, _, hrun, b, ⟨cap, _, rfl, hb', hroom, hcm, ?_, ?_, hlen2⟩, mm, .inl rfl⟩
      · simp only [List.length_append, List.length_take, List.length_drop]
        simp only [List.size_toArray] at hfit
        omega
      · rw [htk, ← hlen2]
        exact List.take_left
    · have holds : ∀ j u, xs[j]? = some u → w.cell? ((⟨b, 0, none⟩ : Addr).add j) = some u := fun j u hu => by
        have hj : j < xs.length := (List.getElem?_eq_some_iff.1 hu).1
        obtain ⟨b3, off3, cs3, e3, fz3, hp3, ha3, hr3⟩ := h.row
        injection hp3 with hp3; injection hp3 with hp3; injection hp3 with q1 q2 _
        subst q1; subst q2
        have h3 := hr3 j hj
        rw [Nat.zero_add] at h3
        rw [add_none]; simp [World.cell?, ha3, h3, hu]
      have hrun := run_append_grow (P := P) w t ty e i z ht.und hi hz ⟨b, 0, none⟩ n cap xs hx holds ⟨b2, off2, none⟩ m' c ys hm hcell (by omega) (by omega) (growslice_fits (by omega) hby)
      have hge := grownCap_ge w (n + m') cap e
      have hn := new_alloc w.drew (.cells (xs.toArray ++ ys.toArray ++ Builtin.zeroCells z.cells (grownCap w (n + m') cap e - (n + m'))) e)
      refine ⟨_, _, hrun, w.heap.size, ⟨_, xs ++ ys ++ (Builtin.zeroCells z.cells (grownCap w (n + m') cap e - (n + m'))).toList, rfl, ?_, hge, grownCap_le_maxLen w (n + m') cap e hmx, ?_, ?_, hlen2⟩, ?_, .inr (Nat.le_refl _)⟩
      · have := hn.at_
        unfold Blk
        rw [show (w.drew.heap.size) = w.heap.size from rfl] at this
        rw [this]
        congr 2
        apply Array.ext'; simp
      · have hG : n + m' + (grownCap w (n + m') cap e - (n + m')) = grownCap w (n + m') cap e := by omega
        have hZ : (Builtin.zeroCells z.cells (grownCap w (n + m') cap e - (n + m'))).toList.length = (grownCap w (n + m') cap e - (n + m')) * i.size := by rw [Array.length_toList, size_zeroCells, ht.zs]
        rw [List.length_append, List.length_append, hZ, hx, hm, ← Nat.add_mul, ← Nat.add_mul, hG]
      · rw [List.take_append_of_le_length (by rw [hlen2]; exact Nat.le_refl _), ← hlen2, List.take_length]
      · exact ⟨rfl, rfl, rfl, by show _ ≤ (w.heap.push _).size; simp, fun k hk _ => heap_alloc_old w.drew _ k hk⟩
theorem app_nil_run {P : Program} {w : World} {t e ty : TypeId} {size bytes : Nat} {z : Value} (ht : TyS P t e size bytes z) {m : Nat} {y : Value} {ys : List Value} (hy : Sl w y size ys) (hm : ys.length = m * size) (h0 : 0 < m)
    (hbig : m * (bytes + 1) ≤ 140737488355328) : ∃ v' w', (Builtin.append_ #[t, t] ty #[.slice none 0 0, y]).run P w = .ok v' w' ∧ AppR [] none w e size m ys v' w' := by
  obtain ⟨i, hi, hz, rfl, rfl⟩ := ht.parts
  obtain ⟨ao, m', c, rfl, hmc, hlen, hr⟩ := hy
  have hmm : m' = m := Nat.mul_right_cancel ht.pos (hlen.symm.trans hm)
  subst hmm
  have hle : m' ≤ 140737488355328 := Nat.le_trans (Nat.le_mul_of_pos_right _ (Nat.succ_pos _)) hbig
  have hby : m' * i.bytes ≤ 140737488355328 := Nat.le_trans (Nat.mul_le_mul_left _ (Nat.le_succ _)) hbig
  have hmx : m' ≤ maxLen := by unfold maxLen; omega
  have hne : ys ≠ [] := fun h => by
    rw [h] at hm
    have : 0 < m' * i.size := Nat.mul_pos h0 ht.pos
    simp at hm; omega
  obtain ⟨b2, off2, cs2, e2, fz2, hp, ha2, hr2⟩ := hr hne
  injection hp with hp
  subst hp
  have hcell : ∀ j u, ys[j]? = some u → w.cell? ((⟨b2, off2, none⟩ : Addr).add j) = some u := fun j u hu => by
    have hj : j < ys.length := (List.getElem?_eq_some_iff.1 hu).1
    rw [add_none]; simp [World.cell?, ha2, hr2 j hj, hu]
  have hrun := run_append_nil (P := P) w t ty e i z ht.und hi hz ⟨b2, off2, none⟩ m' c ys hm hcell h0 (by omega) (by omega)
  have hge := grownCap_ge w m' 0 e
  have hn := new_alloc w.drew (.cells (ys.toArray ++ Builtin.zeroCells z.cells (grownCap w m' 0 e - m')) e)
  refine ⟨_, _, hrun, w.heap.size, ⟨_, ys ++ (Builtin.zeroCells z.cells (grownCap w m' 0 e - m')).toList, rfl, ?_, hge, grownCap_le_maxLen w m' 0 e hmx, ?_, ?_, hm⟩, ?_, .inr (Nat.le_refl _)⟩
  · have := hn.at_
    unfold Blk
    rw [show (w.drew.heap.size) = w.heap.size from rfl] at this
    rw [this]
    congr 2
    apply Array.ext'; simp
  · have hG : m' + (grownCap w m' 0 e - m') = grownCap w m' 0 e := by omega
    have hZ : (Builtin.zeroCells z.cells (grownCap w m' 0 e - m')).toList.length = (grownCap w m' 0 e - m') * i.size := by rw [Array.length_toList, size_zeroCells, ht.zs]
    rw [List.length_append, hZ, hm, ← Nat.add_mul, hG]
  · rw [List.take_append_of_le_length (by rw [hm]; exact Nat.le_refl _), ← hm, List.take_length]
  · exact ⟨rfl, rfl, rfl, by show _ ≤ (w.heap.push _).size; simp, fun k hk _ => heap_alloc_old w.drew _ k hk⟩

/-! ### Appends, makes, literals, in their places -/
theorem app {P : Program} {w : World} {t e ty : TypeId} {size bytes : Nat} {z : Value} {K : Value → World → Prop} (ht : TyS P t e size bytes z) {b n : Nat} (m : Nat) {v y : Value} {xs ys : List Value} (h : Own w b e size v n xs) (hy : Sl w y size ys) (hm : ys.length = m * size) (h1 : ∀ u ∈ ys, u.oneCell' = true)
    (hbig : (n + m) * (bytes + 1) ≤ 140737488355328) (hK : ∀ v' w' b', Own w' b' e size v' (n + m) (xs ++ ys) → Mod [b] w w' → (b' = b ∨ w.heap.size ≤ b') → K v' w') : Pr P (Builtin.append_ #[t, t] ty #[v, y]) w (.one .any) K := by
  obtain ⟨v', w', hr, b', ho, mm, hb⟩ := app_run (ty := ty) ht h hy hm h1 hbig
  exact ⟨v', w', hr, hK v' w' b' ho mm (by simpa using hb)⟩
theorem app_nil {P : Program} {w : World} {t e ty : TypeId} {size bytes : Nat} {z : Value} {K : Value → World → Prop} (ht : TyS P t e size bytes z) (m : Nat) {y : Value} {ys : List Value} (hy : Sl w y size ys) (hm : ys.length = m * size) (h0 : 0 < m)
    (hbig : m * (bytes + 1) ≤ 140737488355328) (hK : ∀ v' w' b', Own w' b' e size v' m ys → Mod [] w w' → w.heap.size ≤ b' → K v' w') : Pr P (Builtin.append_ #[t, t] ty #[.slice none 0 0, y]) w (.one .any) K := by
  obtain ⟨v', w', hr, b', ho, mm, hb⟩ := app_nil_run (ty := ty) ht hy hm h0 hbig
  exact ⟨v', w', hr, hK v' w' b' ho mm (by simpa using hb)⟩
theorem mk_run {P : Program} {t e : TypeId} {bytes : Nat} {z : Value} (ht : TyS P t e 1 bytes z) (xs : List Value) {parts : Array (Nat × Value)} {n : Nat} (hn : xs.length = n) (hp : ∀ init : Array Value, init.size = n → Instr.fill (fun i => some (i * 1, 1)) init parts.toList = some xs.toArray)
    (hsm : n ≤ 16777216) (w : World) : (Instr.buildSlice t n parts).run P w = .ok (.slice (some ⟨w.heap.size, 0, none⟩) n n) (w.alloc (.cells xs.toArray e)) := by
  obtain ⟨i, hi, hzi, hs, hb⟩ := ht.parts
  have hsz : (P.info? e).map (·.size) = some 1 := by rw [hi]; exact congrArg some hs
  have hzz : (P.info? e).map (·.zero) = some (some z) := by rw [hi]; exact congrArg some hzi
  unfold Instr.buildSlice
  simp only [Sem.run_bind, run_underlying ht.und, Result.andThen_ok, sizeOf_run hsz]
  rw [if_neg (by omega)]
  by_cases h0 : n = 0
  · subst h0
    have hx : xs = [] := List.eq_nil_of_length_eq_zero hn
    subst hx
    simp only [Nat.zero_mul, if_true, Sem.run_pure, Result.andThen_ok, Sem.run_bind]
    rw [hp _ (by simp)]
    rfl
  · rw [if_neg (by omega)]
    simp only [Sem.run_bind, zero_run hzz, Result.andThen_ok, Sem.run_pure]
    rw [hp _ (by simp)]
    rfl
theorem fill1 {x : Value} (hx : x.cells = #[x]) : ∀ init : Array Value, init.size = 1 → Instr.fill (fun i => some (i * 1, 1)) init #[(0, x)].toList = some [x].toArray := by
  rintro ⟨l⟩ h
  match l, h with
  | [a], _ => simp [Instr.fill, hx]
theorem fill2 {x y : Value} (hx : x.cells = #[x]) (hy : y.cells = #[y]) : ∀ init : Array Value, init.size = 2 → Instr.fill (fun i => some (i * 1, 1)) init #[(0, x), (1, y)].toList = some [x, y].toArray := by
  rintro ⟨l⟩ h
  match l, h with
  | [a, b], _ => simp [Instr.fill, hx, hy]
theorem fill3 {x y u : Value} (hx : x.cells = #[x]) (hy : y.cells = #[y]) (hu : u.cells = #[u]) : ∀ init : Array Value, init.size = 3 → Instr.fill (fun i => some (i * 1, 1)) init #[(0, x), (1, y), (2, u)].toList = some [x, y, u].toArray := by
  rintro ⟨l⟩ h
  match l, h with
  | [a, b, c], _ => simp [Instr.fill, hx, hy, hu]
theorem mk0 {P : Program} {w : World} {t e : TypeId} {bytes : Nat} {z : Value} {K : Value → World → Prop} (ht : TyS P t e 1 bytes z) (hK : ∀ b w', New w w' b (.cells ([] : List Value).toArray e) → Own w' b e 1 (.slice (some ⟨b, 0, none⟩) 0 0) 0 [] → K (.slice (some ⟨b, 0, none⟩) 0 0) w') :
    Pr P (Instr.buildSlice t 0 #[]) w (.one .any) K :=
  ⟨_, _, mk_run (n := 0) ht [] rfl (fun init h => by rcases init with ⟨l⟩; cases l with | nil => rfl | cons _ _ => cases h) (by omega) w, hK _ _ (new_alloc w _) (own_new (new_alloc w _).at_ rfl (by unfold maxLen; omega))⟩
theorem mk1 {P : Program} {w : World} {t e : TypeId} {bytes : Nat} {z x : Value} {K : Value → World → Prop} (ht : TyS P t e 1 bytes z) (hx : x.cells = #[x]) (hK : ∀ b w', New w w' b (.cells [x].toArray e) → Own w' b e 1 (.slice (some ⟨b, 0, none⟩) 1 1) 1 [x] → K (.slice (some ⟨b, 0, none⟩) 1 1) w') :
    Pr P (Instr.buildSlice t 1 #[(0, x)]) w (.one .any) K :=
  ⟨_, _, mk_run (n := 1) ht [x] rfl (fill1 hx) (by omega) w, hK _ _ (new_alloc w _) (own_new (new_alloc w _).at_ rfl (by unfold maxLen; omega))⟩
theorem mk2 {P : Program} {w : World} {t e : TypeId} {bytes : Nat} {z x y : Value} {K : Value → World → Prop} (ht : TyS P t e 1 bytes z) (hx : x.cells = #[x]) (hy : y.cells = #[y]) (hK : ∀ b w', New w w' b (.cells [x, y].toArray e) → Own w' b e 1 (.slice (some ⟨b, 0, none⟩) 2 2) 2 [x, y] → K (.slice (some ⟨b, 0, none⟩) 2 2) w') :
    Pr P (Instr.buildSlice t 2 #[(0, x), (1, y)]) w (.one .any) K :=
  ⟨_, _, mk_run (n := 2) ht [x, y] rfl (fill2 hx hy) (by omega) w, hK _ _ (new_alloc w _) (own_new (new_alloc w _).at_ rfl (by unfold maxLen; omega))⟩
theorem mk3 {P : Program} {w : World} {t e : TypeId} {bytes : Nat} {z x y u : Value} {K : Value → World → Prop} (ht : TyS P t e 1 bytes z) (hx : x.cells = #[x]) (hy : y.cells = #[y]) (hu : u.cells = #[u]) (hK : ∀ b w', New w w' b (.cells [x, y, u].toArray e) → Own w' b e 1 (.slice (some ⟨b, 0, none⟩) 3 3) 3 [x, y, u] → K (.slice (some ⟨b, 0, none⟩) 3 3) w') :
    Pr P (Instr.buildSlice t 3 #[(0, x), (1, y), (2, u)]) w (.one .any) K :=
  ⟨_, _, mk_run (n := 3) ht [x, y, u] rfl (fill3 hx hy hu) (by omega) w, hK _ _ (new_alloc w _) (own_new (new_alloc w _).at_ rfl (by unfold maxLen; omega))⟩

/-! ### Numbers and bools -/
theorem cvt {P : Program} {src dst : TypeId} {k k' : IntKind} {n : Int} {K : Int → Prop} (hs : (P.underlying src).isSome = true) (hd : P.underlying dst = some (.int k')) (hK : K (k'.wrap n)) : QAll P (convert src dst (.int k n)) (.int k') K := by
  refine ⟨k'.wrap n, fun w => ?_, hK⟩
  obtain ⟨d, hd'⟩ := Option.isSome_iff_exists.1 hs
  unfold convert
  simp only [Sem.run_bind, run_underlying hd', run_underlying hd, Result.andThen_ok]
  cases d <;> rfl
theorem wrap_small {n : Int} (h0 : -9223372036854775808 ≤ n) (h1 : n ≤ 9223372036854775807) : IntKind.i64.wrap n = n := IntWalk.i64_in n ⟨h0, h1⟩
theorem wrap_u8 {n : Int} (h0 : 0 ≤ n) (h1 : n < 256) : IntKind.u8.wrap n = n := IntWalk.u8_in n ⟨h0, by omega⟩
theorem mn {P : Program} {k : IntKind} {at_ : Array TypeId} {ty : TypeId} {x y : Int} {K : Int → Prop} (hK : K (if y < x then y else x)) : QAll P (Builtin.min_ at_ ty #[.int k x, .int k y]) (.int k) K :=
  ⟨_, fun _ => rfl, hK⟩
theorem mx {P : Program} {k : IntKind} {at_ : Array TypeId} {ty : TypeId} {x y : Int} {K : Int → Prop} (hK : K (if y > x then y else x)) : QAll P (Builtin.max_ at_ ty #[.int k x, .int k y]) (.int k) K :=
  ⟨_, fun _ => rfl, hK⟩
theorem eqB_run {P : Program} {t : TypeId} (ht : P.underlying t = some .bool) (ox oy : Operand) (a b : Bool) (w : World) : (do eqGuard .eql t ox oy (.bool a) (.bool b); binOp .eql t (.bool a) (.bool b) : Sem Value).run P w = .ok (.bool (a == b)) w := by
  rw [Sem.run_bind, show (eqGuard .eql t ox oy (.bool a) (.bool b)).run P w = .ok () w from rfl]
  exact run_eql_bool w t a b ht
theorem neqB_run {P : Program} {t : TypeId} (ht : P.underlying t = some .bool) (ox oy : Operand) (a b : Bool) (w : World) : (do eqGuard .neq t ox oy (.bool a) (.bool b); binOp .neq t (.bool a) (.bool b) : Sem Value).run P w = .ok (.bool (a != b)) w := by
  rw [Sem.run_bind, show (eqGuard .neq t ox oy (.bool a) (.bool b)).run P w = .ok () w from rfl]
  simp only [Result.andThen_ok, binOp, Sem.run_bind, run_equal_bool w t a b ht]
  rfl
theorem eqB {P : Program} {t : TypeId} {ox oy : Operand} {a b : Bool} {K : Bool → Prop} (ht : P.underlying t = some .bool) (hK : K (a == b)) : QAll P (do eqGuard .eql t ox oy (.bool a) (.bool b); binOp .eql t (.bool a) (.bool b)) .bool K :=
  ⟨_, fun w => eqB_run ht ox oy a b w, hK⟩
theorem neqB {P : Program} {t : TypeId} {ox oy : Operand} {a b : Bool} {K : Bool → Prop} (ht : P.underlying t = some .bool) (hK : K (a != b)) : QAll P (do eqGuard .neq t ox oy (.bool a) (.bool b); binOp .neq t (.bool a) (.bool b)) .bool K :=
  ⟨_, fun w => neqB_run ht ox oy a b w, hK⟩
theorem part_run {P : Program} {e : TypeId} {z : Value} {n : Nat} (ht : Ty1 P e z n) {l : List Value} {off : Nat} {v : Value} (hv : l[off]? = some v) (w : World) : (part e l.toArray off).run P w = .ok v w := by
  obtain ⟨d, hd, hf⟩ := ht.und
  unfold part
  rw [Sem.run_bind, isAgg_run hd, hf]
  simp [hv]
theorem ixV {P : Program} {t e : TypeId} {len bytes : Nat} {z : Value} {l : List Value} {k : IntKind} {i : Int} {tk : TK} {x : tk.T} {K : tk.T → Prop} (hu : P.underlying t = some (.array len e)) (ht : Ty1 P e z bytes) (h0 : 0 ≤ i) (h1 : i < len) (hv : l[i.toNat]? = some (tk.val x)) (hK : K x) :
    QAll P (Instr.index t (.agg l.toArray) (.int k i)) tk K := by
  refine ⟨x, fun w => ?_, hK⟩
  unfold Instr.index
  simp only [asIntOf, Sem.run_bind, Sem.run_pure, Result.andThen_ok, run_underlying hu]
  rw [if_pos ⟨h0, h1⟩]
  simp only [Sem.run_bind, sizeOf_run ht.size, Result.andThen_ok, Nat.mul_one]
  exact part_run ht hv w

/-! ### Places in own blocks -/
theorem ixRp {P : Program} {t e : TypeId} {len b off : Nat} {k : IntKind} {i : Int} {K : Value → Prop} (ht : TyR P t e len 1) (h0 : 0 ≤ i) (h1 : i < len) (hK : K (ptr b (off + i.toNat))) : QAll P (Instr.indexAt t (ptr b off) (.int k i)) .any K :=
  ixR ht ⟨_, rfl⟩ h0 h1 (by simpa [padd, add_none] using hK)
theorem fldp {P : Program} {s : TypeId} {f o b off : Nat} {K : Value → Prop} (ht : TyF P s f o) (hK : K (ptr b (off + o))) : QAll P (Instr.fieldAt s (ptr b off) f) .any K :=
  fld ht (.inl ⟨_, rfl⟩) ⟨_, rfl⟩ (by simpa [padd, add_none] using hK)
theorem fill_step {α : Type} {xs zs : List α} {i : Nat} (h : i < xs.length) (hl : xs.length = zs.length) : (xs.take i ++ zs.drop i).set i xs[i] = xs.take (i + 1) ++ zs.drop (i + 1) := by
  apply List.ext_getElem?
  intro j
  by_cases hj : i = j
  · subst hj
    rw [List.getElem?_set_self (by simp; omega), List.getElem?_append_left (by simp; omega), List.getElem?_take_of_lt (by omega), List.getElem?_eq_getElem h]
  · rw [List.getElem?_set_ne hj]
    by_cases hlt : j < i
    · rw [List.getElem?_append_left (by simp; omega), List.getElem?_append_left (by simp; omega), List.getElem?_take_of_lt hlt, List.getElem?_take_of_lt (by omega)]
    · rw [List.getElem?_append_right (by simp; omega), List.getElem?_append_right (by simp; omega), List.getElem?_drop, List.getElem?_drop]
      congr 1
      simp only [List.length_take]
      omega

/-- A function value is called. -/
theorem cv {P : Program} {f : FuncId} {first cap args all : Array Value} {w : World} {t : RT} {K : t.T → World → Prop} (ha : first ++ args ++ cap = all) (h : Fc P f all w t K) : callV P (.func (.func f) first cap) args w t K := by
  subst ha; exact h

/-! ### Tests -/
theorem ne_f {a b : Int} (h : (a != b) = false) : a = b := by simpa using h
theorem ne_t {a b : Int} (h : (a != b) = true) : a ≠ b := by simpa using h
theorem eq_f {a b : Int} (h : (a == b) = false) : a ≠ b := by simpa using h
theorem eq_t {a b : Int} (h : (a == b) = true) : a = b := by simpa using h
theorem not_f {b : Bool} (h : (!b) = false) : b = true := by simpa using h
theorem not_t {b : Bool} (h : (!b) = true) : b = false := by simpa using h
theorem dec_t {p : Prop} {_ : Decidable p} (h : decide p = true) : p := of_decide_eq_true h
theorem dec_f {p : Prop} {_ : Decidable p} (h : decide p = false) : ¬ p := of_decide_eq_false h
theorem notd_f {p : Prop} {_ : Decidable p} (h : (!decide p) = false) : p := of_decide_eq_true (not_f h)
theorem notd_t {p : Prop} {_ : Decidable p} (h : (!decide p) = true) : ¬ p := of_decide_eq_false (not_t h)

/-! ### Loops -/
/-- A loop by what holds at each round's head, and a measure. -/
theorem lp {U S : Type} {c : Code} {u : U} {body : (U → S → World → Prop) → S → World → Prop} {s : S} {w : World} (I : S → World → Prop) (μ : S → World → Nat) (h0 : I s w)
    (step : ∀ s w (N : U → S → World → Prop), I s w → (∀ s' w', I s' w' → μ s' w' < μ s w → N u s' w') → body N s w) : At c c (LOOP u body s w) :=
  ⟨rfl, ⟨⟨I, μ, h0, fun s w hI => step s w _ hI fun _ _ h1 h2 => ⟨rfl, h1, h2⟩⟩⟩⟩
end Go.Proofs.Ytkadckhealbdaaa.Mem
