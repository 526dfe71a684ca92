/- Texts that the law FnExactFirstAvoiding needs, joined. No condition. -/
import Derived.Laws.Tables
import Derived.Test.YtkadckhealbdaaaKFirstAvoiding1
set_option linter.all false
/- Renumberings that lead a colouring to another one. No condition. -/
namespace Go.Proofs.Ytkadckhealbdaaa
open Go Go.RowKit Eng Mem
set_option maxRecDepth 100000
/-- May the next point go to j? -/
def sameD (x y : Col) (i j : Int) : Bool := decide (∀ c : Nat, c < x.k.toNat → degN x i c = degN y j c)
def fitsD (x y : Col) (p : List Int) (j : Int) : Bool := decide (∀ m : Nat, m < p.length → p.getD m 0 ≠ j ∧ colAt x m p.length = colAt y (p.getD m 0) j)
def isoF (x y : Col) : Nat → List Int → Option (List Int)
  | 0, p => some p
  | f + 1, p => (List.range y.n.toNat).findSome? fun j : Nat => if sameD x y p.length j && fitsD x y p j then isoF x y f (p ++ [(j : Int)]) else none
/-- From the image j on. -/
def isoR (x y : Col) (f : Nat) (p : List Int) (j : Nat) : Option (List Int) :=
  ((List.range y.n.toNat).drop j).findSome? fun j : Nat => if sameD x y p.length j && fitsD x y p j then isoF x y f (p ++ [(j : Int)]) else none
theorem isoF_succ (x y : Col) (f : Nat) (p : List Int) : isoF x y (f + 1) p = isoR x y f p 0 := by rw [isoF, isoR, List.drop_zero]
theorem isoR_end (x y : Col) (f : Nat) (p : List Int) : isoR x y f p y.n.toNat = none := by
  unfold isoR; rw [List.drop_of_length_le (by simp)]; rfl
theorem isoR_step (x y : Col) (f : Nat) (p : List Int) {j : Nat} (h : j < y.n.toNat) :
    isoR x y f p j = if sameD x y p.length j && fitsD x y p j then (match isoF x y f (p ++ [(j : Int)]) with | some l => some l | none => isoR x y f p (j + 1)) else isoR x y f p (j + 1) := by
  unfold isoR
  rw [List.drop_eq_getElem_cons (by simpa using h), List.getElem_range, List.findSome?_cons]
  by_cases hc : sameD x y p.length j && fitsD x y p j
  · rw [if_pos hc, if_pos hc]
    cases isoF x y f (p ++ [(j : Int)]) <;> rfl
  · rw [if_neg hc, if_neg hc]
theorem isoR_skip {x y : Col} {f : Nat} {p : List Int} {j : Nat} (h : j < y.n.toNat) (hn : ¬ (sameD x y p.length j = true ∧ fitsD x y p j = true)) : isoR x y f p j = isoR x y f p (j + 1) := by
  rw [isoR_step x y f p h, if_neg (by simpa using hn)]
theorem isoR_go {x y : Col} {f : Nat} {p : List Int} {j : Nat} (h : j < y.n.toNat) (h1 : sameD x y p.length j = true) (h2 : fitsD x y p j = true) :
    isoR x y f p j = (match isoF x y f (p ++ [(j : Int)]) with | some l => some l | none => isoR x y f p (j + 1)) := by
  rw [isoR_step x y f p h, if_pos (by simp [h1, h2])]
/-- The number for the degrees of a point. -/
def typeN (x : Col) (i : Int) : Nat → Int
  | 0 => 0
  | c + 1 => typeN x i c * 18 + degN x i c
theorem typeN_bd {x : Col} (h : x.n ≤ 17) (i : Int) (c : Nat) : 0 ≤ typeN x i c ∧ typeN x i c < 18 ^ c := by
  induction c with
  | zero => simp [typeN]
  | succ c ih =>
    have := degN_le x i c
    rw [typeN, Int.pow_succ]
    omega
theorem typeN_eq {x y : Col} (hx : x.n ≤ 17) (hy : y.n ≤ 17) (i j : Int) (k : Nat) : typeN x i k = typeN y j k ↔ ∀ c : Nat, c < k → degN x i c = degN y j c := by
  induction k with
  | zero => simp [typeN]
  | succ k ih =>
    have h1 := degN_le x i k
    have h2 := degN_le y j k
    rw [typeN, typeN]
    constructor
    · intro h c hc
      have e1 : degN x i k = degN y j k := by omega
      have e2 : typeN x i k = typeN y j k := by omega
      rcases Nat.lt_or_ge c k with h' | h'
      · exact ih.1 e2 c h'
      · have : c = k := by omega
        rw [this]; exact e1
    · intro h
      rw [ih.2 fun c hc => h c (by omega), h k (by omega)]
def isoOf (x y : Col) : Option (List Int) := if x.n = y.n ∧ x.k = y.k then isoF x y x.n.toNat [] else none
def areIso (x y : Col) : Bool × Int := if x.Is ∧ y.Is then ((isoOf x y).isSome, 0) else (false, 1)
def findI (x y : Col) : List Int × Int := if x.Is ∧ y.Is then (match isoOf x y with | some l => (l, 0) | none => ([], 4)) else ([], 1)
end Go.Proofs.Ytkadckhealbdaaa

/- Memory of the searches for renumberings. No condition. -/
namespace Go.Proofs.Ytkadckhealbdaaa
open Go Go.RowKit Eng Mem
set_option maxRecDepth 100000
theorem own_one_I {w : World} {b : Nat} {v : Value} {l : List Int} (h : OwnI w b v l) : v.oneCell' = true := by
  obtain ⟨_, _, rfl, _⟩ := h.ex; rfl
/-! ### The list of images: in place -/
def vC (bp : Nat) (p : List Int) : Value := .slice (some ⟨bp, 0, none⟩) p.length 17
structure OwnC (w : World) (bp : Nat) (p : List Int) : Prop where
  ex : ∃ l, Blk w bp l tI ∧ l.length = 17 ∧ l.take p.length = iv p
  le : p.length ≤ 17
theorem OwnC.keep {w w' : World} {bp : Nat} {p : List Int} (h : OwnC w bp p) (q : Below w.heap.size w w') : OwnC w' bp p := by
  obtain ⟨⟨l, hb, r⟩, hl⟩ := h
  exact ⟨⟨l, below_at q hb (at_lt hb), r⟩, hl⟩
theorem OwnC.lt {w : World} {bp : Nat} {p : List Int} (h : OwnC w bp p) : bp < w.heap.size := by obtain ⟨⟨l, hb, _⟩, _⟩ := h; exact at_lt hb
theorem OwnC.pre {w : World} {bp : Nat} {p q : List Int} (h : OwnC w bp (p ++ q)) : OwnC w bp p := by
  obtain ⟨⟨l, hb, hl, ht⟩, hle⟩ := h
  simp at hle
  refine ⟨⟨l, hb, hl, ?_⟩, by omega⟩
  have := congrArg (List.take p.length) ht
  rw [List.take_take, List.length_append, Nat.min_eq_left (by omega)] at this
  rw [this]
  simp [iv]
theorem OwnC.own {w : World} {bp : Nat} {p : List Int} (h : OwnC w bp p) : OwnI w bp (vC bp p) p := by
  obtain ⟨⟨l, hb, hl, ht⟩, hle⟩ := h
  exact ⟨17, l, rfl, hb, hle, by unfold maxLen; omega, by omega, by rw [Nat.mul_one]; exact ht, by simp⟩
theorem OwnC.sl {w : World} {bp : Nat} {p : List Int} (h : OwnC w bp p) : SlI w (vC bp p) p := own_slI h.own (by have := h.le; omega)
theorem mkC_run (w : World) : (Instr.makeSlice tSI (.int .i64 0) (.int .i64 17)).run Try.prog w = .ok (.slice (some ⟨w.heap.size, 0, none⟩) 0 17) (w.alloc (.cells (List.replicate 17 (.int .i64 0)).toArray tI)) := by kernel_rfl
theorem mkC {w : World} {K : Value → World → Prop} (hK : ∀ b w', w.heap.size = b → Below w.heap.size w w' → OwnC w' b [] → K (vC b []) w') : Pr Try.prog (Instr.makeSlice tSI (.int .i64 0) (.int .i64 17)) w (.one .any) K := by
  have hn := new_alloc w (.cells (List.replicate 17 (.int .i64 0)).toArray tI)
  exact ⟨_, _, mkC_run w, hK w.heap.size _ rfl hn.below ⟨⟨_, hn.at_, by simp, rfl⟩, by simp⟩⟩
theorem appC {w : World} {bp : Nat} {p : List Int} {x : Int} {t : TypeId} {K : Value → World → Prop} (h : OwnC w bp p) (hl : p.length < 17)
    (hK : ∀ w', Mod [bp] w w' → OwnC w' bp (p ++ [x]) → K (vC bp (p ++ [x])) w') :
    Pr Try.prog (Instr.buildSlice tSI 1 #[(0, .int .i64 x)]) w (.one .any) fun y w1 => Pr Try.prog (Builtin.append_ #[tSI, tSI] t #[vC bp p, y]) w1 (.one .any) K := by
  refine mk1 ySI rfl fun b1 w1 n1 ho1 => ?_
  obtain ⟨i, hi, hz, hs, hby⟩ := ySI.parts
  obtain ⟨⟨l, hb, hll, ht⟩, hle⟩ := h.keep n1.below
  have hcell : ∀ j u, [Value.int .i64 x][j]? = some u → w1.cell? ((⟨b1, 0, none⟩ : Addr).add j) = some u := fun j u hu => by
    have hj : j = 0 := by
      rcases Nat.eq_zero_or_pos j with h | h
      · exact h
      · rw [List.getElem?_eq_none (by simp; omega)] at hu; cases hu
    subst hj
    rw [add_none]; simp [World.cell?, n1.at_] at hu ⊢; exact hu
  have hrun := run_append_room (P := Try.prog) w1 tSI t tI i ySI.und hi bp p.length 17 l.toArray hb ⟨b1, 0, none⟩ 1 1 [.int .i64 x] (by rw [hs]; rfl) hcell (by simp [Value.oneCell']) (by omega) (by rw [hs]; simp; omega)
  obtain ⟨mm, hb'⟩ := mod_setRow (l' := l.take (p.length * i.size) ++ [.int .i64 x] ++ l.drop (p.length * i.size + 1)) hb
  rw [hs, Nat.mul_one] at hrun hb' mm
  refine ⟨_, _, hrun, ?_⟩
  have hv : Value.slice (some ⟨bp, 0, none⟩) (p.length + 1) 17 = vC bp (p ++ [x]) := by simp [vC]
  rw [hv]
  refine hK _ ((n1.mod.mono (by simp)).trans mm) ⟨⟨_, hb', by simp; omega, ?_⟩, by simp; omega⟩
  rw [List.length_append, List.length_singleton, ht, iv, iv, List.map_append]
  exact List.take_left' (by simp)
/-! ### Degrees -/
def degP (x : Col) (i c : Int) (j : Nat) : Nat := (List.range j).countP fun t : Nat => joinB x i t c
def degK (x : Col) (i : Int) (j : Nat) : List Int := (List.range x.k.toNat).map fun c : Nat => (degP x i c j : Int)
theorem degK_len (x : Col) (i : Int) (j : Nat) : (degK x i j).length = x.k.toNat := by simp [degK]
theorem degK_get (x : Col) (i : Int) (j : Nat) {c : Nat} (h : c < x.k.toNat) : (degK x i j).getD c 0 = degP x i c j := by simp [degK, h]
theorem degP_le (x : Col) (i c : Int) (j : Nat) : degP x i c j ≤ j := Nat.le_trans List.countP_le_length (by simp)
theorem degP_succ (x : Col) (i c : Int) (j : Nat) : degP x i c (j + 1) = degP x i c j + if joinB x i j c then 1 else 0 := by
  unfold degP; rw [List.range_succ, List.countP_append]; simp [List.countP_cons]
theorem degK_same {x : Col} {i : Int} {j : Nat} (h : i = j) : degK x i (j + 1) = degK x i j := by
  unfold degK
  apply List.map_congr_left
  intro c _
  rw [degP_succ, if_neg (by simp [joinB, h]), Nat.add_zero]
theorem degK_set {x : Col} {i : Int} {j : Nat} (h : i ≠ j) (h0 : 0 ≤ colAt x i j) (_h1 : colAt x i j < x.k) : (degK x i j).set (colAt x i j).toNat ((degK x i j).getD (colAt x i j).toNat 0 + 1) = degK x i (j + 1) := by
  apply List.ext_getElem?
  intro c
  by_cases hc : c = (colAt x i j).toNat
  · subst hc
    have hlt : (colAt x i j).toNat < x.k.toNat := by omega
    rw [List.getElem?_set_self (by rw [degK_len]; exact hlt), degK_get _ _ _ hlt]
    simp [degK, hlt, degP_succ, joinB, h, Int.toNat_of_nonneg h0]
  · rw [List.getElem?_set_ne (Ne.symm hc)]
    by_cases h2 : c < x.k.toNat
    · simp only [degK, List.getElem?_map, List.getElem?_range h2, Option.map_some]
      rw [degP_succ, if_neg, Nat.add_zero]
      simp only [joinB, decide_eq_true_eq]
      rintro ⟨_, h3⟩
      omega
    · rw [List.getElem?_eq_none (by rw [degK_len]; omega), List.getElem?_eq_none (by rw [degK_len]; omega)]
theorem sameD_eq {x y : Col} (hk : x.k = y.k) (i j : Int) : decide (degK x i x.n.toNat = degK y j y.n.toNat) = sameD x y i j := by
  unfold sameD
  rw [decide_eq_decide]
  constructor
  · intro h c hc
    have := congrArg (fun l => l.getD c 0) h
    simp only [degK_get x i _ hc, degK_get y j _ (show c < y.k.toNat by omega)] at this
    exact_mod_cast this
  · intro h
    unfold degK
    rw [hk]
    apply List.map_congr_left
    intro c hc
    have hc : c < y.k.toNat := by simpa using hc
    have := h c (by omega)
    show ((degN x i c : Nat) : Int) = (degN y j c : Nat)
    rw [this]
/-! ### The tracer -/
def trV (px py po : Value) (S : Nat → Nat → Bool) : List Value := px :: py :: po :: (List.range 289).map fun e => .bool (S (e / 17) (e % 17))
theorem trV_len (px py po : Value) (S : Nat → Nat → Bool) : (trV px py po S).length = 292 := by simp [trV]
theorem trV_get (px py po : Value) (S : Nat → Nat → Bool) {i j : Nat} (hi : i < 17) (hj : j < 17) : (trV px py po S)[3 + i * 17 + j]? = some (.bool (S i j)) := by
  have h1 : i * 17 + j < 289 := by omega
  have h2 : (i * 17 + j) / 17 = i := by omega
  have h3 : (i * 17 + j) % 17 = j := by omega
  rw [show 3 + i * 17 + j = (i * 17 + j) + 1 + 1 + 1 from by omega]
  simp [trV, h1, h2, h3]
theorem trV_set (px py po : Value) (S : Nat → Nat → Bool) {i j : Nat} (v : Bool) (hi : i < 17) (hj : j < 17) : (trV px py po S).set (3 + i * 17 + j) (.bool v) = trV px py po fun a c => if a = i ∧ c = j then v else S a c := by
  rw [show 3 + i * 17 + j = (i * 17 + j) + 1 + 1 + 1 from by omega]
  unfold trV
  rw [List.set_cons_succ, List.set_cons_succ, List.set_cons_succ]
  congr 3
  apply List.ext_getElem?
  intro e
  by_cases he : e = i * 17 + j
  · subst he
    rw [List.getElem?_set_self (by simp; omega)]
    have h1 : i * 17 + j < 289 := by omega
    have h2 : (i * 17 + j) / 17 = i := by omega
    have h3 : (i * 17 + j) % 17 = j := by omega
    simp [h1, h2, h3]
  · rw [List.getElem?_set_ne (Ne.symm he)]
    by_cases h : e < 289
    · simp only [List.getElem?_map, List.getElem?_range h, Option.map_some]
      rw [if_neg]
      omega
    · rw [List.getElem?_eq_none (by simp; omega), List.getElem?_eq_none (by simp; omega)]
theorem buildTr (px py : Addr) (po : Option Addr) (n m : Nat) (w : World) : (Instr.build tTr #[(0, .pointer (some px)), (1, .pointer (some py)), (2, .slice po n m)]).run Try.prog w = .ok (.agg (trV (.pointer (some px)) (.pointer (some py)) (.slice po n m) fun _ _ => false).toArray) w := by kernel_rfl
theorem ixRq {t e : TypeId} {len size b off : Nat} {k : IntKind} {i : Int} {K : Value → Prop} (ht : TyR Try.prog t e len size) (h0 : 0 ≤ i) (h1 : i < len) (hK : K (ptr b (off + i.toNat * size))) : QAll Try.prog (Instr.indexAt t (ptr b off) (.int k i)) .any K :=
  ixR ht ⟨_, rfl⟩ h0 h1 (by simpa [padd, add_none] using hK)
theorem eqPT_run (a : Option Addr) (ox oy : Operand) (w : World) : (do eqGuard .eql tPT ox oy (.pointer a) (.pointer none); binOp .eql tPT (.pointer a) (.pointer none) : Sem Value).run Try.prog w = .ok (.bool a.isNone) w := by
  cases a <;> kernel_rfl
theorem selT_len (n : Nat) : (sel (fun _ => true) n).length = n := by
  unfold sel; rw [List.filter_eq_self.2 (fun _ _ => rfl)]; simp
theorem selT_get {n k : Nat} (h : k < n) : (sel (fun _ => true) n).getD k 0 = k := by
  unfold sel; rw [List.filter_eq_self.2 (fun _ _ => rfl)]; simp [h]
theorem Below.m {w w' : World} (h : Below w.heap.size w w') (S : List Nat) : Mod S w w' := mod_of_below h S
/-! ### The search -/
def srV (x y : Col) (one two : Value) (most cnt : Int) (first : Value) : List Value := x.cells ++ (y.cells ++ [one, two, .int .i64 most, .int .i64 cnt, first])
theorem setAll : ∀ (xs : List Value) (k off : Nat) (cs : List Value), off + k + xs.length ≤ cs.length →
    (xs.zipIdx k).foldl (fun (cs : Array Value) (t : Value × Nat) => cs.setIfInBounds (off + t.2) t.1) cs.toArray = (cs.take (off + k) ++ xs ++ cs.drop (off + k + xs.length)).toArray
  | [], k, off, cs, h => by simp
  | x :: xs, k, off, cs, h => by
    simp only [List.length_cons] at h
    rw [List.zipIdx_cons, List.foldl_cons]
    have hs : cs.toArray.setIfInBounds (off + k) x = (cs.set (off + k) x).toArray := by simp
    simp only [hs]
    rw [setAll xs (k + 1) off (cs.set (off + k) x) (by simp; omega)]
    congr 1
    rw [← Nat.add_assoc, List.drop_set_of_lt (by omega), List.take_set, List.set_eq_take_append_cons_drop, if_pos (by simp; omega), List.take_take, Nat.min_eq_left (by omega), List.drop_eq_nil_of_le (by simp; omega)]
    simp only [List.length_cons, List.append_assoc, List.singleton_append]
    rw [show off + k + 1 + xs.length = off + k + (xs.length + 1) from by omega]
theorem fill_put {place : Nat → Option (Nat × Nat)} {cells xs : List Value} {i off : Nat} {v : Value} {rest : List (Nat × Value)} (hp : place i = some (off, xs.length)) (hv : v.cells = xs.toArray) (hle : off + xs.length ≤ cells.length) :
    Instr.fill place cells.toArray ((i, v) :: rest) = Instr.fill place (cells.take off ++ xs ++ cells.drop (off + xs.length)).toArray rest := by
  have := setAll xs 0 off cells (by omega)
  rw [Nat.add_zero] at this
  conv => lhs; unfold Instr.fill
  simp only [hp, hv, List.size_toArray, ne_eq, not_true_eq_false, decide_false, Bool.false_or]
  rw [if_neg (by simp; omega)]
  congr 1
  rw [← Array.foldl_toList, Array.toList_zipIdx]
  exact this
theorem builtSr (ps : List (Nat × Value)) : Try.prog.built tSr ps = Instr.fill (fun i => #[(0, 138), (138, 138), (276, 1), (277, 1), (278, 1), (279, 1), (280, 1)][i]?) zSr.toArray ps := by kernel_rfl
theorem srV_len {x y : Col} (hx : x.Ok) (hy : y.Ok) (one two : Value) (most cnt : Int) (first : Value) : (srV x y one two most cnt first).length = 281 := by
  simp [srV, Col.cells, hx.len, hy.len]
theorem buildSr {x y : Col} (hx : x.Ok) (hy : y.Ok) {one two : Value} (h1 : one.cells = #[one]) (h2 : two.cells = #[two]) (most : Int) (w : World) :
    (Instr.build tSr #[(0, x.val), (1, y.val), (2, one), (3, two), (4, .int .i64 most)]).run Try.prog w = .ok (.agg (srV x y one two most 0 (.slice none 0 0)).toArray) w := by
  have lx : x.cells.length = 138 := by simp [Col.cells, hx.len]
  have ly : y.cells.length = 138 := by simp [Col.cells, hy.len]
  have lz : zC.length = 138 := by simp [zC, zA]
  apply run_build
  rw [builtSr]
  rw [fill_put (xs := x.cells) (off := 0) (by rw [lx]; rfl) rfl (by rw [lx]; simp [zSr, lz])]
  rw [fill_put (xs := y.cells) (off := 138) (by rw [ly]; rfl) rfl (by rw [lx, ly]; simp [zSr, lz, lx])]
  have e1 : (List.take 138 (List.take 0 zSr ++ x.cells ++ List.drop (0 + x.cells.length) zSr) ++ y.cells ++ List.drop (138 + y.cells.length) (List.take 0 zSr ++ x.cells ++ List.drop (0 + x.cells.length) zSr)) = x.cells ++ (y.cells ++ [.slice none 0 0, .slice none 0 0, .int .i64 0, .int .i64 0, .slice none 0 0]) := by
    rw [List.take_zero, List.nil_append, lx, ly, Nat.zero_add, List.take_left' lx, List.drop_append, lx, List.drop_eq_nil_of_le (by omega), List.nil_append, List.drop_drop, List.append_assoc]
    congr 2
  rw [e1]
  have step : ∀ (i off k : Nat) (v : Value) (rest : List (Nat × Value)) (ts : List Value), (#[(0, 138), (138, 138), (276, 1), (277, 1), (278, 1), (279, 1), (280, 1)] : Array (Nat × Nat))[i]? = some (off, 1) → off = 276 + k → v.cells = #[v] → k < ts.length →
      Instr.fill (fun i => (#[(0, 138), (138, 138), (276, 1), (277, 1), (278, 1), (279, 1), (280, 1)] : Array (Nat × Nat))[i]?) (x.cells ++ (y.cells ++ ts)).toArray ((i, v) :: rest) = Instr.fill (fun i => (#[(0, 138), (138, 138), (276, 1), (277, 1), (278, 1), (279, 1), (280, 1)] : Array (Nat × Nat))[i]?) (x.cells ++ (y.cells ++ ts.set k v)).toArray rest := fun i off k v rest ts hp ho hv hk => by
    rw [fill_put (xs := [v]) (off := off) hp hv (by simp [lx, ly]; omega)]
    congr 2
    rw [ho, List.take_append, List.take_append, lx, ly, List.take_of_length_le (by omega), List.take_of_length_le (by omega), List.drop_append, List.drop_append, lx, ly, List.drop_eq_nil_of_le (by simp; omega), List.drop_eq_nil_of_le (by simp; omega),
      List.set_eq_take_append_cons_drop, if_pos hk, show 276 + k - 138 - 138 = k from by omega, show 276 + k + [v].length - 138 - 138 = k + 1 from by simp; omega]
    simp
  rw [step 2 276 0 one _ _ rfl rfl h1 (by simp), step 3 277 1 two _ _ rfl rfl h2 (by simp), step 4 278 2 (.int .i64 most) _ _ rfl rfl rfl (by simp)]
  rfl
end Go.Proofs.Ytkadckhealbdaaa

/- Memory of the circular colourings and of the cliques. No condition. -/
namespace Go.Proofs.Ytkadckhealbdaaa
open Go Go.RowKit Eng Mem
set_option maxRecDepth 100000
theorem bitsN_take {p : Nat → Bool} {i : Nat} (hi : p i = true) : ∀ {n : Nat}, i < n → bitsN p n = bitsN (fun j => p j && decide (j ≠ i)) n + 2 ^ i
  | 0, h => by omega
  | n + 1, h => by
    rw [bitsN, bitsN]
    by_cases he : i = n
    · subst he
      rw [if_pos hi, bitsN_congr (q := fun j => p j && decide (j ≠ i)) (fun j hj => by simp [show j ≠ i by omega])]
      simp
    · rw [bitsN_take hi (show i < n by omega)]
      simp only [show n ≠ i from fun h => he h.symm, ne_eq, not_false_eq_true, decide_true, Bool.and_true]
      omega
/-- The points from i on in a set. -/
def fromS (s i : Nat) (j : Nat) : Bool := s.testBit j && decide (i ≤ j)
theorem fromS_no {s i n : Nat} (h : s.testBit i = false) : bitsN (fromS s i) n = bitsN (fromS s (i + 1)) n := bitsN_congr fun j _ => by
  unfold fromS
  by_cases he : j = i
  · subst he; simp [h]
  · congr 1; simp; omega
theorem fromS_yes {s i n : Nat} (h : s.testBit i = true) (hi : i < n) : bitsN (fromS s i) n = bitsN (fromS s (i + 1)) n + 2 ^ i := by
  rw [bitsN_take (p := fromS s i) (by simp [fromS, h]) hi]
  congr 1
  exact bitsN_congr fun j _ => by
    unfold fromS
    by_cases he : j = i
    · subst he; simp
    · by_cases hle : i ≤ j
      · simp [he, hle, show i + 1 ≤ j by omega]
      · simp [hle, show ¬ i + 1 ≤ j by omega]
theorem fromS_0 {s n : Nat} (h : s < 2 ^ n) : bitsN (fromS s 0) n = s := by
  rw [← bitsN_of h]
  exact bitsN_congr fun j _ => by simp [fromS, bitsN_of h]
/-- The points that go with a list, after its last. -/
def fromL (l : List Int) : Int := match l.getLast? with
  | none => 0
  | some e => e + 1
theorem fromL_app (l : List Int) (p : Int) : fromL (l ++ [p]) = p + 1 := by simp [fromL]
def goL' (x : Col) (c : Int) (l : List Int) (j : Nat) : Bool := decide (fromL l ≤ j) && l.all fun i => joinB x i j c
theorem goL_nil (x : Col) (c : Int) (j : Nat) : goL' x c [] j = true := by simp [goL', fromL]
theorem goL_app {x : Col} {c : Int} {l : List Int} {p j : Nat} (hp : fromL l ≤ p) : goL' x c (l ++ [(p : Int)]) j = (goL' x c l j && (decide (p < j) && adjC x c p j)) := by
  unfold goL' adjC
  rw [fromL_app, List.all_append]
  by_cases h : p < j
  · simp [h, show (p : Int) + 1 ≤ j by omega, show fromL l ≤ j by omega]
  · simp [h, show ¬ (p : Int) + 1 ≤ j by omega]
/-! ### Slices of colourings -/
def ccl (ls : List Col) : List Value := ls.flatMap Col.cells
theorem cells_len {c : Col} (h : c.Ok) : c.cells.length = 138 := by simp [Col.cells, h.len]
theorem ccl_len : ∀ {ls : List Col}, (∀ c ∈ ls, c.Ok) → (ccl ls).length = ls.length * 138
  | [], _ => rfl
  | c :: ls, h => by
    have := ccl_len (ls := ls) fun d hd => h d (List.mem_cons_of_mem _ hd)
    unfold ccl at this ⊢
    rw [List.flatMap_cons, List.length_append, this, cells_len (h c (List.mem_cons_self ..)), List.length_cons]
    omega
abbrev OwnS (w : World) (b : Nat) (v : Value) (ls : List Col) : Prop := Own w b tC 138 v ls.length (ccl ls)
theorem mkS0_run (w : World) : (Instr.buildSlice tSC 0 #[]).run Try.prog w = .ok (.slice (some ⟨w.heap.size, 0, none⟩) 0 0) (w.alloc (.cells #[] tC)) := by kernel_rfl
theorem mkS0 {w : World} {K : Value → World → Prop} (hK : ∀ b v w', w.heap.size ≤ b → Below w.heap.size w w' → OwnS w' b v [] → K v w') : Pr Try.prog (Instr.buildSlice tSC 0 #[]) w (.one .any) K := by
  have hn := new_alloc w (.cells #[] tC)
  exact ⟨_, _, mkS0_run w, hK w.heap.size _ _ (Nat.le_refl _) hn.below ⟨0, [], rfl, hn.at_, Nat.le_refl _, by unfold maxLen; omega, rfl, rfl, rfl⟩⟩
theorem mkS1_run {c : Col} (hc : c.Ok) (w : World) : (Instr.buildSlice tSC 1 #[(0, c.val)]).run Try.prog w = .ok (.slice (some ⟨w.heap.size, 0, none⟩) 1 1) (w.alloc (.cells c.cells.toArray tC)) := by
  have lc := cells_len hc
  obtain ⟨i, hi, hzi, hs, hb⟩ := ySC.parts
  have hsz : (Try.prog.info? tC).map (·.size) = some 138 := by rw [hi]; exact congrArg some hs
  have hzz : (Try.prog.info? tC).map (·.zero) = some (some (.agg zC.toArray)) := by rw [hi]; exact congrArg some hzi
  have hf : ∀ init : Array Value, init.size = 138 → Instr.fill (fun i => some (i * 138, 138)) init #[(0, c.val)].toList = some c.cells.toArray := fun init hi => by
    rcases init with ⟨l⟩
    have hl : l.length = 138 := hi
    have := fill_put (place := fun i => some (i * 138, 138)) (cells := l) (xs := c.cells) (i := 0) (off := 0) (v := c.val) (rest := []) (by rw [lc]) rfl (by rw [lc]; omega)
    refine this.trans ?_
    rw [List.take_zero, List.nil_append, Nat.zero_add, List.drop_eq_nil_of_le (by omega), List.append_nil]
    rfl
  unfold Instr.buildSlice
  simp only [Sem.run_bind, run_underlying ySC.und, Result.andThen_ok, sizeOf_run hsz]
  rw [if_neg (by omega), if_neg (by omega)]
  simp only [Sem.run_bind, zero_run hzz, Result.andThen_ok, Sem.run_pure]
  rw [hf _ (by simp)]
  rfl
theorem appS {w : World} {b : Nat} {v : Value} {ls : List Col} {c : Col} {t : TypeId} {K : Value → World → Prop} (hc : c.Ok) (h : OwnS w b v ls) (hl : ls.length ≤ 1000000)
    (hK : ∀ v' w' b', OwnS w' b' v' (ls ++ [c]) → Mod [b] w w' → (b' = b ∨ w.heap.size ≤ b') → K v' w') :
    Pr Try.prog (Instr.buildSlice tSC 1 #[(0, c.val)]) w (.one .any) fun y w1 => Pr Try.prog (Builtin.append_ #[tSC, tSC] t #[v, y]) w1 (.one .any) K := by
  have lc := cells_len hc
  have hn := new_alloc w (.cells c.cells.toArray tC)
  refine ⟨_, _, mkS1_run hc w, ?_⟩
  have ho1 : Own (w.alloc (.cells c.cells.toArray tC)) w.heap.size tC 138 (.slice (some ⟨w.heap.size, 0, none⟩) 1 1) 1 c.cells := ⟨1, c.cells, rfl, hn.at_, Nat.le_refl _, by unfold maxLen; omega, by omega, by rw [List.take_of_length_le (by omega)], by omega⟩
  have hlt := h.lt
  refine app ySC 1 (h.keep hn.below) ho1.sl (by omega) c.cells_one (by omega) fun v' w' b' o m hb => hK v' w' b' ?_ ((hn.mod.mono (by simp)).trans m) (by have := hn.size; omega)
  unfold OwnS ccl
  rw [List.length_append, List.length_singleton, List.flatMap_append, List.flatMap_singleton]
  exact o
theorem lenS_ {w : World} {b : Nat} {v : Value} {ls : List Col} {t : TypeId} {K : Int → Prop} (h : OwnS w b v ls) (hK : K (ls.length : Int)) : QAll Try.prog (Builtin.len_ #[tSC] t #[v]) (.int .i64) K :=
  len ySC h.sl (by rw [h.len, Nat.mul_div_cancel _ (by omega)]; exact hK)
/-- The first one is read. -/
theorem atS0 {w : World} {b : Nat} {v : Value} {c : Col} {ls : List Col} {k : IntKind} {K : Value → Prop} (hc : c.Ok) (h : OwnS w b v (c :: ls)) (hK : K c.val) :
    QAll Try.prog (Instr.indexAt tSC v (.int k 0)) .any fun p => QSub Try.prog (Instr.loadAt tC p) w .any K :=
  ixS ySC h.sl (by omega) (by rw [h.len]; simp) fun p hp => by
    have hx : ColAt w p c := hp c.cells fun j hj => by
      show (ccl (c :: ls))[0 * 138 + j]? = _
      unfold ccl
      rw [List.flatMap_cons, Nat.zero_mul, Nat.zero_add, List.getElem?_append_left hj]
    exact col_all hc hx hK
end Go.Proofs.Ytkadckhealbdaaa

/- Cliques in lists; memory of the searches for colourings that avoid sizes. No condition. -/
namespace Go.Proofs.Ytkadckhealbdaaa
open Go Go.RowKit Eng Mem
set_option maxRecDepth 100000
def clqT (f : Int → List Int → Bool) : List Int → Bool
  | [] => false
  | p :: r => f p r || clqT f r
def clqP (adj : Int → Int → Bool) : Nat → List Int → Bool
  | 0, _ => true
  | m + 1, pts => clqT (fun p r => clqP adj m (r.filter (adj p))) pts
theorem clqT_len {f : Int → List Int → Bool} {m : Nat} (hf : ∀ p r, f p r = true → m ≤ r.length) : ∀ {l : List Int}, clqT f l = true → m + 1 ≤ l.length
  | [], h => by cases h
  | p :: r, h => by
    rw [clqT, Bool.or_eq_true] at h
    rcases h with h | h
    · have := hf p r h; simp; omega
    · have := clqT_len hf h; simp; omega
theorem clqP_len (adj : Int → Int → Bool) : ∀ (m : Nat) {l : List Int}, clqP adj m l = true → m ≤ l.length
  | 0, _, _ => Nat.zero_le _
  | m + 1, l, h => by
    rw [clqP] at h
    exact clqT_len (fun p r hr => Nat.le_trans (clqP_len adj m hr) (List.length_filter_le _ _)) h
/-- The numbers from a on, below n, of which p is so. -/
def selR (S : Nat → Bool) (a n : Nat) : List Int := (((List.range n).drop a).filter S).map fun i : Nat => (i : Int)
theorem selR_0 (S : Nat → Bool) (n : Nat) : selR S 0 n = sel S n := rfl
theorem selR_end (S : Nat → Bool) (n : Nat) : selR S n n = [] := by unfold selR; rw [List.drop_of_length_le (by simp)]; rfl
theorem selR_step (S : Nat → Bool) {a n : Nat} (h : a < n) : selR S a n = (if S a then [(a : Int)] else []) ++ selR S (a + 1) n := by
  unfold selR
  rw [List.drop_eq_getElem_cons (by simpa using h), List.getElem_range]
  by_cases hs : S a
  · rw [List.filter_cons_of_pos hs, if_pos hs]; rfl
  · rw [List.filter_cons_of_neg hs, if_neg hs]; rfl
theorem selR_sel (S : Nat → Bool) (Q : Int → Bool) (a n : Nat) : (selR S (a + 1) n).filter Q = sel (fun j : Nat => S j && (decide (a < j) && Q j)) n := by
  unfold selR sel
  rw [List.filter_map, List.filter_filter]
  congr 1
  have hsplit : List.range n = (List.range n).take (a + 1) ++ (List.range n).drop (a + 1) := (List.take_append_drop _ _).symm
  conv => rhs; rw [hsplit, List.filter_append]
  have h1 : ((List.range n).take (a + 1)).filter (fun j : Nat => S j && (decide (a < j) && Q j)) = [] := by
    rw [List.filter_eq_nil_iff]
    intro j hj
    have : j < a + 1 := by
      obtain ⟨i, hi, he⟩ := List.mem_iff_getElem.1 hj
      simp at he hi
      omega
    simp [show ¬ a < j by omega]
  rw [h1, List.nil_append]
  apply List.filter_congr
  intro j hj
  have : a < j := by
    obtain ⟨i, hi, he⟩ := List.mem_iff_getElem.1 hj
    simp at he
    omega
  simp [this, Bool.and_comm]
theorem clqT_sel (f : Int → List Int → Bool) (S : Nat → Bool) (n : Nat) : ∀ d a : Nat, a + d = n → clqT f (selR S a n) = ((List.range n).drop a).any fun i => S i && f i (selR S (i + 1) n)
  | 0, a, h => by
    have : a = n := by omega
    subst this
    rw [selR_end, List.drop_of_length_le (by simp)]; rfl
  | d + 1, a, h => by
    have ih := clqT_sel f S n d (a + 1) (by omega)
    rw [selR_step S (by omega), List.drop_eq_getElem_cons (by simp; omega), List.getElem_range, List.any_cons, ← ih]
    by_cases hs : S a
    · rw [if_pos hs, hs, List.singleton_append, clqT, Bool.true_and]
    · rw [if_neg hs, List.nil_append]
      simp [hs]
theorem clqP_sel (adj : Int → Int → Bool) (n : Nat) : ∀ (m : Nat) (S : Nat → Bool), clqP adj m (sel S n) = clqF (fun i j => adj i j) n m S
  | 0, _ => rfl
  | m + 1, S => by
    rw [clqP, clqF, ← selR_0, clqT_sel _ S n n 0 (by omega), List.drop_zero]
    apply congrArg (List.any (List.range n))
    funext i
    congr 1
    rw [selR_sel, clqP_sel adj n m]
theorem clqF_adj {adj adj' : Nat → Nat → Bool} {n : Nat} (h : ∀ p q, p < q → q < n → adj p q = adj' p q) : ∀ (m : Nat) (S : Nat → Bool), clqF adj n m S = clqF adj' n m S
  | 0, _ => rfl
  | m + 1, S => by
    rw [clqF, clqF, Bool.eq_iff_iff, List.any_eq_true, List.any_eq_true]
    have e : ∀ i, i < n → (clqF adj n m fun j => S j && (decide (i < j) && adj i j)) = (clqF adj' n m fun j => S j && (decide (i < j) && adj' i j)) := fun i hi => by
      rw [clqF_adj h m]
      refine clqF_congr fun j hj => ?_
      by_cases hij : i < j
      · rw [h i j hij hj]
      · simp [hij]
    constructor <;> rintro ⟨i, hi, hs⟩ <;> refine ⟨i, hi, ?_⟩
    · rwa [← e i (by simpa using hi)]
    · rwa [e i (by simpa using hi)]
theorem clqF_n {adj : Nat → Nat → Bool} {n n' : Nat} (hn : n ≤ n') : ∀ (m : Nat) (S : Nat → Bool), (∀ j, S j = true → j < n) → clqF adj n' m S = clqF adj n m S
  | 0, _, _ => rfl
  | m + 1, S, hS => by
    rw [clqF, clqF, Bool.eq_iff_iff, List.any_eq_true, List.any_eq_true]
    have e : ∀ i, (clqF adj n' m fun j => S j && (decide (i < j) && adj i j)) = (clqF adj n m fun j => S j && (decide (i < j) && adj i j)) := fun i => clqF_n hn m _ fun j hj => hS j (by rw [Bool.and_eq_true] at hj; exact hj.1)
    constructor
    · rintro ⟨i, hi, hs⟩
      rw [e i] at hs
      rw [Bool.and_eq_true] at hs
      exact ⟨i, by simpa using hS i hs.1, by rw [Bool.and_eq_true]; exact hs⟩
    · rintro ⟨i, hi, hs⟩
      rw [← e i] at hs
      exact ⟨i, by simp at hi ⊢; omega, hs⟩
/-! ### Edges so far -/
theorem esAt_app {es t : List Int} {p q : Int} (h : (num p q).toNat < es.length) : esAt (es ++ t) p q = esAt es p q := by
  unfold esAt
  rw [List.getD_eq_getElem?_getD, List.getD_eq_getElem?_getD, List.getElem?_append_left h]
theorem esAt_new {es t : List Int} {p j : Int} (h0 : 0 ≤ p) (h1 : p < j) (hl : (es.length : Int) = edgesOf j) : esAt (es ++ t) p j = t.getD p.toNat 0 := by
  have hn := edgesOf_mono (j := 0) (n := j) (by omega) (by omega)
  rw [show edgesOf 0 = 0 from by decide] at hn
  unfold esAt
  rw [num_of h1, enum_eq, List.getD_eq_getElem?_getD, List.getD_eq_getElem?_getD, List.getElem?_append_right (by omega), show (edgesOf j + p).toNat - es.length = p.toNat from by omega]
theorem num_lt' {p q j : Int} (h0 : 0 ≤ p) (h1 : p < q) (h2 : q < j) : 0 ≤ num p q ∧ num p q < edgesOf j := by
  rw [num_of h1, enum_eq]
  have h3 := edgesOf_mono (j := 0) (n := q) (by omega) (by omega)
  rw [show edgesOf 0 = 0 from by decide] at h3
  have h4 := edgesOf_mono (j := q + 1) (n := j) (by omega) (by omega)
  have h5 := edgesOf_succ q
  omega
theorem num_lt'' {p i j : Int} (h0 : 0 ≤ p) (h1 : p < i) (h2 : i < j) : 0 ≤ num p j ∧ num p j < edgesOf j + i := by
  rw [num_of (by omega), enum_eq]
  have h3 := edgesOf_mono (j := 0) (n := j) (by omega) (by omega)
  rw [show edgesOf 0 = 0 from by decide] at h3
  omega
theorem join_colE (n k : Int) (es : List Int) (p q c : Int) : joinB (colE n k es) p q c = decide (p ≠ q ∧ esAt es p q = c) := by
  unfold joinB; rw [colE_at]
/-- The edge's colour may be c: as the program finds it, whatever colour the edge has. -/
theorem ok_of {n k i j c y : Int} {l es : List Int} (i0 : 0 ≤ i) (ij : i < j) (j16 : j ≤ 16) (hl : (es.length : Int) = edgesOf j + i) :
    clqP (fun p q => joinB (colE n k (es ++ [y])) p q c) (l.getD c.toNat 0 - 2).toNat (sel (fun p => joinB (colE n k (es ++ [y])) p i c && joinB (colE n k (es ++ [y])) p j c) i.toNat) = !okE l es i j c := by
  unfold okE
  rw [Bool.not_not, clqP_sel]
  have h0 := edgesOf_mono (j := 0) (n := j) (by omega) (by omega)
  rw [show edgesOf 0 = 0 from by decide] at h0
  have hm := edgesOf_mono (j := i) (n := j) (by omega) (by omega)
  rw [clqF_adj (adj' := adjE es c) fun p q hpq hq => by
    have hb := num_lt' (p := (p : Int)) (q := (q : Int)) (j := i) (by omega) (by omega) (by omega)
    rw [join_colE, esAt_app (by omega)]
    rfl]
  rw [clqF_n (n := i.toNat) (n' := 17) (by omega) _ (nearE es i j c) (fun p hp => by unfold nearE at hp; have := of_decide_eq_true hp; omega)]
  refine clqF_congr fun p hp => ?_
  unfold nearE
  have hb1 := num_lt' (p := (p : Int)) (q := i) (j := j) (by omega) (by omega) (by omega)
  have hb2 := num_lt'' (p := (p : Int)) (i := i) (j := j) (by omega) (by omega) ij
  rw [join_colE, join_colE, esAt_app (by omega), esAt_app (by omega), Bool.eq_iff_iff]
  simp only [Bool.and_eq_true, decide_eq_true_eq]
  constructor
  · rintro ⟨⟨_, a⟩, ⟨_, b⟩⟩; exact ⟨by omega, a, b⟩
  · rintro ⟨_, a, b⟩; exact ⟨⟨by omega, a⟩, ⟨by omega, b⟩⟩
/-! ### Parts of slices -/
theorem dropI_run {w : World} {b off n c : Nat} {k : IntKind} {i : Int} (h0 : 0 ≤ i) (h1 : i ≤ n) (hc : n ≤ c) : ∃ off', (i < n → off' = off + i.toNat) ∧ ∀ w, (Instr.sliceAt tSI (.slice (some ⟨b, off, none⟩) n c) (some (.int k i)) none none).run Try.prog w = .ok (.slice (some ⟨b, off', none⟩) (n - i.toNat) (c - i.toNat)) w := by
  have hs : (Try.prog.info? tI).map (·.size) = some 1 := yI.size
  have h2 : i.toNat ≤ n := by omega
  by_cases hce : c = i.toNat
  · refine ⟨off, fun h => by omega, fun w => ?_⟩
    unfold Instr.sliceAt
    simp only [Sem.run_bind, run_underlying ySI.und, Result.andThen_ok]
    unfold Instr.slice
    simp [run_underlying ySI.und, Instr.sliceBounds, Instr.sliceBound, asIntOf, sizeOf_run hs, hce, h0, h1, h2, add_none]
  · refine ⟨off + i.toNat, fun _ => rfl, fun w => ?_⟩
    unfold Instr.sliceAt
    simp only [Sem.run_bind, run_underlying ySI.und, Result.andThen_ok]
    unfold Instr.slice
    simp [run_underlying ySI.und, Instr.sliceBounds, Instr.sliceBound, asIntOf, sizeOf_run hs, hc, h0, h1, h2, add_none]
    omega
theorem dropI {w : World} {v : Value} {l : List Int} {k : IntKind} {i : Int} {K : Value → Prop} (h : SlI w v l) (h0 : 0 ≤ i) (h1 : i ≤ l.length) (hp : l ≠ []) (hK : ∀ v', (∀ w', SlI w' v l → SlI w' v' (l.drop i.toNat)) → K v') :
    QAll Try.prog (Instr.sliceAt tSI v (some (.int k i)) none none) .any K := by
  obtain ⟨a, n, c, rfl, hnc, hn, hr⟩ := h.sl
  obtain ⟨b, off, _, _, _, ha, _⟩ := hr (by simpa using hp)
  injection ha with ha
  subst ha
  have hn : n = l.length := by simp at hn; omega
  subst hn
  obtain ⟨off', ho, hrun⟩ := dropI_run (w := w) (b := b) (off := off) (k := k) h0 h1 hnc
  refine ⟨_, fun w' => hrun w', hK _ fun w' hs => ⟨⟨_, _, _, rfl, by omega, by simp, fun hne => ?_⟩, by have := hs.len; simp; omega⟩⟩
  obtain ⟨_, _, _, he, _, _, hr'⟩ := hs.sl
  injection he with he1 he2 he3
  subst he1
  have hlt : i < l.length := by
    rcases Int.lt_or_le i l.length with h | h
    · exact h
    · exfalso; apply hne; simp; omega
  rw [ho hlt]
  have hrow := hr' (by simpa using hp)
  have := hrow.sub i.toNat (us := iv (l.drop i.toNat)) fun j hj => by simp [List.getElem?_drop]
  simpa [padd, add_none] using this
/-- What a search has met, whose visitor answers r always; and its answer. -/
def vis (r : Bool) (L : List (List Int)) : List (List Int) := if r then L else L.take 1
def resV (r : Bool) (L : List (List Int)) : Bool := r || L.isEmpty
theorem colE_val_ok {n k y : Int} {es : List Int} (hn : I64 n) (hk : I64 k) (hl : es.length < 136) (h : ∀ e ∈ es, 0 ≤ e ∧ e < 256) (hy : 0 ≤ y ∧ y < 256) : (colE n k (es ++ [y])).Ok :=
  colE_ok hn hk (by simp; omega) fun e he => by
    rcases List.mem_append.1 he with he | he
    · exact h e he
    · simp at he; subst he; exact hy
end Go.Proofs.Ytkadckhealbdaaa

/- The reading of impl_in, and its contract. No condition. -/
namespace Go.Proofs.Ytkadckhealbdaaa
open Go Go.RowKit Eng Mem
set_option linter.unusedVariables false
set_option maxRecDepth 100000
def V_impl_in (n0 : Int) (low1 : Int) (high2 : Int) (w : World) (K : Bool → World → Prop) : Prop :=
  (((decide (n0 ≥ low1)) = true → K (decide (n0 ≤ high2)) w) ∧ ((decide (n0 ≥ low1)) = false → K false w))

theorem eq_impl_in (n0 : Int) (low1 : Int) (high2 : Int) (w : World) (K : Bool → World → Prop) :
    W Try.prog ty (fun _ _ _ _ => False) (bodyOf Try.f54) (fnPost Try.prog Try.f54.results.toList (.one .bool) K) (frame0 [(.int .i64 n0), (.int .i64 low1), (.int .i64 high2)] 15) w = V_impl_in n0 low1 high2 w K := by
  kernel_rfl

theorem body_impl_in : Try.f54.body = some (bodyOf Try.f54) := by kernel_rfl
theorem name_impl_in : (Try.f54.name == "runtime.NumGoroutine") = false := by kernel_rfl

theorem walk_impl_in (n0 : Int) (low1 : Int) (high2 : Int) {w : World} {K : Bool → World → Prop} (h : V_impl_in n0 low1 high2 w K) : Fc Try.prog 54 #[(.int .i64 n0), (.int .i64 low1), (.int .i64 high2)] w (.one .bool) K :=
  fn_ok follows (sound_none _) Try.func54 name_impl_in body_impl_in Try.ntmps54 [(.int .i64 n0), (.int .i64 low1), (.int .i64 high2)] (Eq.mpr (eq_impl_in n0 low1 high2 w K) h)

theorem c_impl_in (n lo hi : Int) {w : World} {K : Bool → World → Prop} (hK : K (decide (lo ≤ n ∧ n ≤ hi)) w) : Fc Try.prog F_impl_in #[.int .i64 n, .int .i64 lo, .int .i64 hi] w (.one .bool) K := by
  refine walk_impl_in n lo hi ⟨fun h => ?_, fun h => ?_⟩
  · have h := of_decide_eq_true h
    simpa [h] using hK
  · have h := of_decide_eq_false h
    have : ¬ lo ≤ n := h
    simpa [this] using hK

end Go.Proofs.Ytkadckhealbdaaa

/- The reading of impl_areIn_1, and its contract. No condition. -/
namespace Go.Proofs.Ytkadckhealbdaaa
open Go Go.RowKit Eng Mem
set_option linter.unusedVariables false
set_option maxRecDepth 100000
def V_impl_areIn_1 (n0 : Int) (x1 : Value) (x2 : Value) (w : World) (K : Bool → World → Prop) : Prop :=
  (QSub Try.prog (Instr.loadAt 2 x1) w (.int .i64) fun (x6_1 : Int) => (QSub Try.prog (Instr.loadAt 2 x2) w (.int .i64) fun (x7_2 : Int) => (Fc Try.prog 54 #[(.int .i64 n0), (.int .i64 x6_1), (.int .i64 x7_2)] w (.one .bool) fun (x8_4 : Bool) w_3 => K (!x8_4) w_3)))

theorem eq_impl_areIn_1 (n0 : Int) (x1 : Value) (x2 : Value) (w : World) (K : Bool → World → Prop) :
    W Try.prog ty (fun _ _ _ _ => False) (bodyOf Try.f123) (fnPost Try.prog Try.f123.results.toList (.one .bool) K) (frame0 [(.int .i64 n0), x1, x2] 10) w = V_impl_areIn_1 n0 x1 x2 w K := by
  kernel_rfl

theorem body_impl_areIn_1 : Try.f123.body = some (bodyOf Try.f123) := by kernel_rfl
theorem name_impl_areIn_1 : (Try.f123.name == "runtime.NumGoroutine") = false := by kernel_rfl

theorem walk_impl_areIn_1 (n0 : Int) (x1 : Value) (x2 : Value) {w : World} {K : Bool → World → Prop} (h : V_impl_areIn_1 n0 x1 x2 w K) : Fc Try.prog 123 #[(.int .i64 n0), x1, x2] w (.one .bool) K :=
  fn_ok follows (sound_none _) Try.func123 name_impl_areIn_1 body_impl_areIn_1 Try.ntmps123 [(.int .i64 n0), x1, x2] (Eq.mpr (eq_impl_areIn_1 n0 x1 x2 w K) h)

-- uses S2Sl
theorem c_impl_areIn_1 {p q : Value} {n lo hi : Int} {w : World} {K : Bool → World → Prop} (hp : Cell w p (.int .i64 lo)) (hq : Cell w q (.int .i64 hi)) (hK : K (!decide (lo ≤ n ∧ n ≤ hi)) w) :
    Fc Try.prog F_impl_areIn_1 #[.int .i64 n, p, q] w (.one .bool) K :=
  walk_impl_areIn_1 _ _ _ (ld (k := .int .i64) yI hp (ld (k := .int .i64) yI hq (c_impl_in _ _ _ hK)))

end Go.Proofs.Ytkadckhealbdaaa

/- The reading of impl_sizeS, and its contract. No condition. -/
namespace Go.Proofs.Ytkadckhealbdaaa
open Go Go.RowKit Eng Mem
set_option linter.unusedVariables false
set_option maxRecDepth 100000
def V_impl_sizeS (list0 : Value) (w : World) (K : Int → World → Prop) : Prop :=
  (QAll Try.prog (Builtin.len_ #[31] 3 #[list0]) (.int .i64) fun (x4_1 : Int) => K x4_1 w)

theorem eq_impl_sizeS (list0 : Value) (w : World) (K : Int → World → Prop) :
    W Try.prog ty (fun _ _ _ _ => False) (bodyOf Try.f58) (fnPost Try.prog Try.f58.results.toList (.one (.int .i64)) K) (frame0 [list0] 5) w = V_impl_sizeS list0 w K := by
  kernel_rfl

theorem body_impl_sizeS : Try.f58.body = some (bodyOf Try.f58) := by kernel_rfl
theorem name_impl_sizeS : (Try.f58.name == "runtime.NumGoroutine") = false := by kernel_rfl

theorem walk_impl_sizeS (list0 : Value) {w : World} {K : Int → World → Prop} (h : V_impl_sizeS list0 w K) : Fc Try.prog 58 #[list0] w (.one (.int .i64)) K :=
  fn_ok follows (sound_none _) Try.func58 name_impl_sizeS body_impl_sizeS Try.ntmps58 [list0] (Eq.mpr (eq_impl_sizeS list0 w K) h)

-- uses S2Sl
theorem c_impl_sizeS {a : Value} {l : List Int} {w : World} {K : Int → World → Prop} (h : SlI w a l) (hK : K (l.length : Int) w) : Fc Try.prog F_impl_sizeS #[a] w (.one (.int .i64)) K :=
  walk_impl_sizeS _ (lenI h hK)

end Go.Proofs.Ytkadckhealbdaaa

/- The reading of slices_IndexFunc_int64_int64, and its contract. No condition. -/
namespace Go.Proofs.Ytkadckhealbdaaa
open Go Go.RowKit Eng Mem
set_option linter.unusedVariables false
set_option maxRecDepth 100000
def B_slices_IndexFunc_int64_int64_2 (s0 : Value) (f1 : Value) (x7 : Int) (x8 : Int) (N : (Value × Value × Int) → Int → World → Prop) (D0 : (Unit) → World → Prop) (R : (Int × Unit) → World → Prop) (w : World) : Prop :=
  (((decide (x8 < x7)) = true → (QAll Try.prog (Instr.indexAt 31 s0 (.int .i64 x8)) .any fun (x14_2 : Value) => (QSub Try.prog (Instr.loadAt 2 x14_2) w (.int .i64) fun (x15_3 : Int) => (callV Try.prog f1 #[(.int .i64 x15_3)] w (.one .bool) fun (x16_5 : Bool) w_4 => ((x16_5 = true → R (x8, ()) w_4) ∧ (x16_5 = false → N ((s0 : Value), (f1 : Value), x7) (IntKind.i64.wrap (x8 + (1 : Int))) w_4)))))) ∧ ((decide (x8 < x7)) = false → D0 () w))

abbrev L_slices_IndexFunc_int64_int64_2_e0 : List Slot := [.junk, .junk, .junk, .junk, .junk, .junk, .junk, .junk, .junk, .junk, .junk, .junk, .junk, .junk, .junk, .junk, .junk, .junk, .junk]

abbrev L_slices_IndexFunc_int64_int64_2_sp : List Slot := [.k .any, .k .any, .junk, .junk, .junk, .junk, .junk, .k (.int .i64), .k (.int .i64), .junk, .junk, .junk, .junk, .junk, .junk, .junk, .junk, .junk, .junk]
abbrev L_slices_IndexFunc_int64_int64_2_ex : List (Nat × List Slot) := [(0, L_slices_IndexFunc_int64_int64_2_e0)]
abbrev L_slices_IndexFunc_int64_int64_2_rt : List Slot := [.junk, .junk, .junk, .junk, .k (.int .i64), .junk, .junk, .junk, .junk, .junk, .junk, .junk, .junk, .junk, .junk, .junk, .junk, .junk, .junk]

def L_slices_IndexFunc_int64_int64_2_b (Φ : Post) (u : (Value × Value × Int)) (N : (Value × Value × Int) → Int → World → Prop) (s : Int) (w : World) : Prop :=
  B_slices_IndexFunc_int64_int64_2 u.1 u.2.1 u.2.2 s N (fun v w => ∀ j : Nat → Value, Φ (.exit 0) (mkT j 0 L_slices_IndexFunc_int64_int64_2_e0 v) w) (fun v w => ∀ j : Nat → Value, Φ .ret (mkT j 0 L_slices_IndexFunc_int64_int64_2_rt v) w) w

theorem L_slices_IndexFunc_int64_int64_2_eq (j : Nat → Value) (u : (Value × Value × Int)) (s : Int) (N : (Value × Value × Int) → Int → World → Prop) (D0 : (Unit) → World → Prop) (R : (Int × Unit) → World → Prop) (w : World) :
    W Try.prog ty (fun _ _ _ _ => False) (loopAt Try.f137 2) (loopPost L_slices_IndexFunc_int64_int64_2_sp [(0, (⟨L_slices_IndexFunc_int64_int64_2_e0, D0⟩ : Door))] ⟨L_slices_IndexFunc_int64_int64_2_rt, R⟩ (fun v w => N ((fun v => (v.1, v.2.1, v.2.2.1)) v) ((fun v => v.2.2.2.1) v) w)) (mkT j 0 L_slices_IndexFunc_int64_int64_2_sp ((fun u s => (u.1, u.2.1, u.2.2, s, ())) u s)) w =
    B_slices_IndexFunc_int64_int64_2 u.1 u.2.1 u.2.2 s N D0 R w := by
  kernel_rfl

def O_slices_IndexFunc_int64_int64_1 : Code → Post → List SV → World → Prop :=
  orc 2 (loopAt Try.f137 2) L_slices_IndexFunc_int64_int64_2_sp (fun Φ fr w => LOOP (U := (Value × Value × Int)) (S := Int) ((fun v => (v.1, v.2.1, v.2.2.1)) (extT L_slices_IndexFunc_int64_int64_2_sp fr)) (L_slices_IndexFunc_int64_int64_2_b Φ ((fun v => (v.1, v.2.1, v.2.2.1)) (extT L_slices_IndexFunc_int64_int64_2_sp fr))) ((fun v => v.2.2.2.1) (extT L_slices_IndexFunc_int64_int64_2_sp fr)) w) (fun _ _ _ _ => False)

theorem O_slices_IndexFunc_int64_int64_1_ok : Sound Try.prog O_slices_IndexFunc_int64_int64_1 :=
  orc_ok (sound_none _) fun Φ fr w hs h => loop_ok (ty := ty) follows (sound_none _) L_slices_IndexFunc_int64_int64_2_sp (fun v => (v.1, v.2.1, v.2.2.1)) (fun v => v.2.2.2.1) (fun u s => (u.1, u.2.1, u.2.2, s, ())) (fun _ => rfl) L_slices_IndexFunc_int64_int64_2_ex L_slices_IndexFunc_int64_int64_2_rt (body := L_slices_IndexFunc_int64_int64_2_b Φ) (fun j u s w N hb => by
    have e := L_slices_IndexFunc_int64_int64_2_eq j u s N (doorOf Φ (.exit 0) L_slices_IndexFunc_int64_int64_2_e0).D (doorOf Φ .ret L_slices_IndexFunc_int64_int64_2_rt).D w
    exact Eq.mpr e hb) hs h

def V_slices_IndexFunc_int64_int64 (s0 : Value) (f1 : Value) (w : World) (K : Int → World → Prop) : Prop :=
  (QAll Try.prog (Builtin.len_ #[31] 3 #[s0]) (.int .i64) fun (x7_1 : Int) => (At (loopAt Try.f137 2) (loopAt Try.f137 2) (LOOP (U := (Value × Value × Int)) (S := Int) ((s0 : Value), (f1 : Value), x7_1) (fun N_12 s_13 w_14 => B_slices_IndexFunc_int64_int64_2 (s0 : Value) (f1 : Value) x7_1 s_13 N_12 (fun (v_6 : (Unit)) w_7 => ∀ _j_8 : Nat → Value, K (-1 : Int) w_7) (fun (v_9 : (Int × Unit)) w_10 => ∀ _j_11 : Nat → Value, K v_9.1 w_10) w_14) (0 : Int) w)))

theorem eq_slices_IndexFunc_int64_int64 (s0 : Value) (f1 : Value) (w : World) (K : Int → World → Prop) :
    W Try.prog ty O_slices_IndexFunc_int64_int64_1 (bodyOf Try.f137) (fnPost Try.prog Try.f137.results.toList (.one (.int .i64)) K) (frame0 [s0, f1] 19) w = V_slices_IndexFunc_int64_int64 s0 f1 w K := by
  kernel_rfl

theorem body_slices_IndexFunc_int64_int64 : Try.f137.body = some (bodyOf Try.f137) := by kernel_rfl
theorem name_slices_IndexFunc_int64_int64 : (Try.f137.name == "runtime.NumGoroutine") = false := by kernel_rfl

theorem walk_slices_IndexFunc_int64_int64 (s0 : Value) (f1 : Value) {w : World} {K : Int → World → Prop} (h : V_slices_IndexFunc_int64_int64 s0 f1 w K) : Fc Try.prog 137 #[s0, f1] w (.one (.int .i64)) K :=
  fn_ok follows O_slices_IndexFunc_int64_int64_1_ok Try.func137 name_slices_IndexFunc_int64_int64 body_slices_IndexFunc_int64_int64 Try.ntmps137 [s0, f1] (Eq.mpr (eq_slices_IndexFunc_int64_int64 s0 f1 w K) h)

-- uses S2Sl
theorem c_slices_IndexFunc_int64_int64 {s f : Value} {l : List Int} (g : Int → Bool) {w : World} {K : Int → World → Prop} (h : SlI w s l)
    (hf : ∀ x ∈ l, ∀ (w' : World) (K' : Bool → World → Prop), Below w.heap.size w w' → (∀ w'', Below w'.heap.size w' w'' → K' (g x) w'') → callV Try.prog f #[.int .i64 x] w' (.one .bool) K')
    (hK : ∀ w' (r : Int), Below w.heap.size w w' → (r = -1 ∧ l.any g = false ∨ ∃ i : Nat, r = i ∧ i < l.length ∧ g (l.getD i 0) = true ∧ ∀ j, j < i → g (l.getD j 0) = false) → K r w') :
    Fc Try.prog F_slices_IndexFunc_int64_int64 #[s, f] w (.one (.int .i64)) K := by
  have hlen := h.len
  refine walk_slices_IndexFunc_int64_int64 _ _ (lenI h ?_)
  refine lp (fun i w' => 0 ≤ i ∧ i ≤ l.length ∧ Below w.heap.size w w' ∧ ∀ j : Nat, (j : Int) < i → g (l.getD j 0) = false) (fun i _ => (l.length - i).toNat)
    ⟨by omega, by omega, Below.refl _ _, fun j hj => by omega⟩ ?_
  rintro i w1 N ⟨h0, hi, hb, hall⟩ hN
  unfold B_slices_IndexFunc_int64_int64_2
  refine ⟨fun hlt => ?_, fun hge => ?_⟩
  · have hlt := dec_t hlt
    refine atI (h.keep hb) h0 hlt ?_
    have hm : l.getD i.toNat 0 ∈ l := by
      simp only [List.getD, show i.toNat < l.length from by omega, List.getElem?_eq_getElem, Option.getD_some]
      exact List.getElem_mem _
    refine hf _ hm w1 _ hb fun w2 hb2 => ?_
    have hbb := hb.trans (hb2.mono hb.size)
    refine ⟨fun ht _ => hK w2 _ hbb (.inr ⟨i.toNat, by omega, by omega, ht, fun j hj => hall j (by omega)⟩), fun hn => ?_⟩
    rw [wrap_small (by omega) (by omega)]
    refine hN _ _ ⟨by omega, by omega, hbb, fun j hj => ?_⟩ (by omega)
    by_cases hji : (j : Int) < i
    · exact hall j hji
    · have : j = i.toNat := by omega
      subst this; exact hn
  · have hge := dec_f hge
    refine fun _ => hK w1 _ hb (.inl ⟨rfl, ?_⟩)
    rw [List.any_eq_false]
    intro x hx
    obtain ⟨j, hj, rfl⟩ := List.getElem_of_mem hx
    have := hall j (by omega)
    simpa [List.getD, hj] using this

end Go.Proofs.Ytkadckhealbdaaa

/- The reading of slices_ContainsFunc_int64_int64, and its contract. No condition. -/
namespace Go.Proofs.Ytkadckhealbdaaa
open Go Go.RowKit Eng Mem
set_option linter.unusedVariables false
set_option maxRecDepth 100000
def V_slices_ContainsFunc_int64_int64 (s0 : Value) (f1 : Value) (w : World) (K : Bool → World → Prop) : Prop :=
  (Fc Try.prog 137 #[s0, f1] w (.one (.int .i64)) fun (x7_2 : Int) w_1 => K (decide (x7_2 ≥ (0 : Int))) w_1)

theorem eq_slices_ContainsFunc_int64_int64 (s0 : Value) (f1 : Value) (w : World) (K : Bool → World → Prop) :
    W Try.prog ty (fun _ _ _ _ => False) (bodyOf Try.f122) (fnPost Try.prog Try.f122.results.toList (.one .bool) K) (frame0 [s0, f1] 9) w = V_slices_ContainsFunc_int64_int64 s0 f1 w K := by
  kernel_rfl

theorem body_slices_ContainsFunc_int64_int64 : Try.f122.body = some (bodyOf Try.f122) := by kernel_rfl
theorem name_slices_ContainsFunc_int64_int64 : (Try.f122.name == "runtime.NumGoroutine") = false := by kernel_rfl

theorem walk_slices_ContainsFunc_int64_int64 (s0 : Value) (f1 : Value) {w : World} {K : Bool → World → Prop} (h : V_slices_ContainsFunc_int64_int64 s0 f1 w K) : Fc Try.prog 122 #[s0, f1] w (.one .bool) K :=
  fn_ok follows (sound_none _) Try.func122 name_slices_ContainsFunc_int64_int64 body_slices_ContainsFunc_int64_int64 Try.ntmps122 [s0, f1] (Eq.mpr (eq_slices_ContainsFunc_int64_int64 s0 f1 w K) h)

-- uses S2Sl
theorem c_slices_ContainsFunc_int64_int64 {s f : Value} {l : List Int} (g : Int → Bool) {w : World} {K : Bool → World → Prop} (h : SlI w s l)
    (hf : ∀ x ∈ l, ∀ (w' : World) (K' : Bool → World → Prop), Below w.heap.size w w' → (∀ w'', Below w'.heap.size w' w'' → K' (g x) w'') → callV Try.prog f #[.int .i64 x] w' (.one .bool) K')
    (hK : ∀ w', Below w.heap.size w w' → K (l.any g) w') :
    Fc Try.prog F_slices_ContainsFunc_int64_int64 #[s, f] w (.one .bool) K := by
  refine walk_slices_ContainsFunc_int64_int64 _ _ (c_slices_IndexFunc_int64_int64 g h hf fun w' r hb hr => ?_)
  have := hK w' hb
  rcases hr with ⟨rfl, hn⟩ | ⟨i, rfl, hi, ht, _⟩
  · rw [hn] at this; exact this
  · rw [show l.any g = true from List.any_eq_true.2 ⟨l[i], List.getElem_mem hi, by simpa [List.getD, hi] using ht⟩] at this
    rw [decide_eq_true (by omega)]; exact this

end Go.Proofs.Ytkadckhealbdaaa

/- The reading of impl_areIn, and its contract. No condition. -/
namespace Go.Proofs.Ytkadckhealbdaaa
open Go Go.RowKit Eng Mem
set_option linter.unusedVariables false
set_option maxRecDepth 100000
def V_impl_areIn (list0 : Value) (many1 : Int) (low2 : Int) (high3 : Int) (w : World) (K : Bool → World → Prop) : Prop :=
  (Pr Try.prog (Instr.box 2 (.int .i64 low2)) w (.one .any) fun (low6_2 : Value) w_1 => (Pr Try.prog (Instr.box 2 (.int .i64 high3)) w_1 (.one .any) fun (high7_4 : Value) w_3 => (Fc Try.prog 58 #[list0] w_3 (.one (.int .i64)) fun (x10_6 : Int) w_5 => (((x10_6 == many1) = true → (Fc Try.prog 122 #[list0, (.func (.func 123) #[] #[low6_2, high7_4])] w_5 (.one .bool) fun (x16_8 : Bool) w_7 => K (!x16_8) w_7)) ∧ ((x10_6 == many1) = false → K false w_5)))))

theorem eq_impl_areIn (list0 : Value) (many1 : Int) (low2 : Int) (high3 : Int) (w : World) (K : Bool → World → Prop) :
    W Try.prog ty (fun _ _ _ _ => False) (bodyOf Try.f102) (fnPost Try.prog Try.f102.results.toList (.one .bool) K) (frame0 [list0, (.int .i64 many1), (.int .i64 low2), (.int .i64 high3)] 19) w = V_impl_areIn list0 many1 low2 high3 w K := by
  kernel_rfl

theorem body_impl_areIn : Try.f102.body = some (bodyOf Try.f102) := by kernel_rfl
theorem name_impl_areIn : (Try.f102.name == "runtime.NumGoroutine") = false := by kernel_rfl

theorem walk_impl_areIn (list0 : Value) (many1 : Int) (low2 : Int) (high3 : Int) {w : World} {K : Bool → World → Prop} (h : V_impl_areIn list0 many1 low2 high3 w K) : Fc Try.prog 102 #[list0, (.int .i64 many1), (.int .i64 low2), (.int .i64 high3)] w (.one .bool) K :=
  fn_ok follows (sound_none _) Try.func102 name_impl_areIn body_impl_areIn Try.ntmps102 [list0, (.int .i64 many1), (.int .i64 low2), (.int .i64 high3)] (Eq.mpr (eq_impl_areIn list0 many1 low2 high3 w K) h)

-- uses S3Part
theorem c_impl_areIn {a : Value} {l : List Int} {many lo hi : Int} {w : World} {K : Bool → World → Prop} (h : SlI w a l) (hK : ∀ w', Below w.heap.size w w' → K (decide ((l.length : Int) = many ∧ AllIn l lo hi)) w') :
    Fc Try.prog F_impl_areIn #[a, .int .i64 many, .int .i64 lo, .int .i64 hi] w (.one .bool) K := by
  refine walk_impl_areIn _ _ _ _ (box [.int .i64 lo] rfl fun b1 w1 n1 => box [.int .i64 hi] rfl fun b2 w2 n2 => ?_)
  have hb := n1.below.trans (n2.below.mono n1.below.size)
  have c1 : Cell w2 (ptr b1 0) (.int .i64 lo) := (row_all (cs := [_]) n1.at_).keep n2.below
  have c2 : Cell w2 (ptr b2 0) (.int .i64 hi) := row_all (cs := [_]) n2.at_
  refine c_impl_sizeS (h.keep hb) ⟨fun he => ?_, fun hn => ?_⟩
  · have he := eq_t he
    refine c_slices_ContainsFunc_int64_int64 (fun x => !decide (lo ≤ x ∧ x ≤ hi)) (h.keep hb) (fun x hx w' K' hb' hk => cv rfl ?_) fun w' hb' => ?_
    · exact c_impl_areIn_1 (c1.keep hb') (c2.keep hb') (hk _ (Below.refl _ _))
    · have := hK w' (hb.trans (hb'.mono hb.size))
      have e : decide ((l.length : Int) = many ∧ AllIn l lo hi) = !(l.any fun x => !decide (lo ≤ x ∧ x ≤ hi)) := by
        rw [Bool.eq_iff_iff]
        simp [he, AllIn]
      rw [e] at this
      exact this
  · have := hK w2 hb
    rwa [decide_eq_false (fun hh => eq_f hn hh.1)] at this

end Go.Proofs.Ytkadckhealbdaaa

/- The reading of impl_areForbidden, and its contract. No condition. -/
namespace Go.Proofs.Ytkadckhealbdaaa
open Go Go.RowKit Eng Mem
set_option linter.unusedVariables false
set_option maxRecDepth 100000
def V_impl_areForbidden (sizes0 : Value) (k1 : Int) (w : World) (K : Bool → World → Prop) : Prop :=
  (Fc Try.prog 102 #[sizes0, (.int .i64 k1), (.int .i64 (1 : Int)), (.int .i64 (17 : Int))] w (.one .bool) fun (x7_2 : Bool) w_1 => K x7_2 w_1)

theorem eq_impl_areForbidden (sizes0 : Value) (k1 : Int) (w : World) (K : Bool → World → Prop) :
    W Try.prog ty (fun _ _ _ _ => False) (bodyOf Try.f77) (fnPost Try.prog Try.f77.results.toList (.one .bool) K) (frame0 [sizes0, (.int .i64 k1)] 8) w = V_impl_areForbidden sizes0 k1 w K := by
  kernel_rfl

theorem body_impl_areForbidden : Try.f77.body = some (bodyOf Try.f77) := by kernel_rfl
theorem name_impl_areForbidden : (Try.f77.name == "runtime.NumGoroutine") = false := by kernel_rfl

theorem walk_impl_areForbidden (sizes0 : Value) (k1 : Int) {w : World} {K : Bool → World → Prop} (h : V_impl_areForbidden sizes0 k1 w K) : Fc Try.prog 77 #[sizes0, (.int .i64 k1)] w (.one .bool) K :=
  fn_ok follows (sound_none _) Try.func77 name_impl_areForbidden body_impl_areForbidden Try.ntmps77 [sizes0, (.int .i64 k1)] (Eq.mpr (eq_impl_areForbidden sizes0 k1 w K) h)

-- uses S3Part
theorem c_impl_areForbidden {a : Value} {l : List Int} {k : Int} {w : World} {K : Bool → World → Prop} (h : SlI w a l) (hK : ∀ w', Below w.heap.size w w' → K (decide ((l.length : Int) = k ∧ AllIn l 1 17)) w') : Fc Try.prog F_impl_areForbidden #[a, .int .i64 k] w (.one .bool) K :=
  walk_impl_areForbidden _ _ (c_impl_areIn h hK)

end Go.Proofs.Ytkadckhealbdaaa

/- The reading of impl_number, and its contract. No condition. -/
namespace Go.Proofs.Ytkadckhealbdaaa
open Go Go.RowKit Eng Mem
set_option linter.unusedVariables false
set_option maxRecDepth 100000
def V_impl_number (i0 : Int) (j1 : Int) (w : World) (K : Int → World → Prop) : Prop :=
  (QAll Try.prog (Builtin.min_ #[2, 2] 2 #[(.int .i64 i0), (.int .i64 j1)]) (.int .i64) fun (x7_1 : Int) => (QAll Try.prog (Builtin.max_ #[2, 2] 2 #[(.int .i64 i0), (.int .i64 j1)]) (.int .i64) fun (x10_2 : Int) => ((2 : Int) ≠ 0 ∧ K (IntKind.i64.wrap ((IntKind.i64.wrap (Int.tdiv (IntKind.i64.wrap (x10_2 * (IntKind.i64.wrap (x10_2 - (1 : Int))))) (2 : Int))) + x7_1)) w)))

theorem eq_impl_number (i0 : Int) (j1 : Int) (w : World) (K : Int → World → Prop) :
    W Try.prog ty (fun _ _ _ _ => False) (bodyOf Try.f115) (fnPost Try.prog Try.f115.results.toList (.one (.int .i64)) K) (frame0 [(.int .i64 i0), (.int .i64 j1)] 18) w = V_impl_number i0 j1 w K := by
  kernel_rfl

theorem body_impl_number : Try.f115.body = some (bodyOf Try.f115) := by kernel_rfl
theorem name_impl_number : (Try.f115.name == "runtime.NumGoroutine") = false := by kernel_rfl

theorem walk_impl_number (i0 : Int) (j1 : Int) {w : World} {K : Int → World → Prop} (h : V_impl_number i0 j1 w K) : Fc Try.prog 115 #[(.int .i64 i0), (.int .i64 j1)] w (.one (.int .i64)) K :=
  fn_ok follows (sound_none _) Try.func115 name_impl_number body_impl_number Try.ntmps115 [(.int .i64 i0), (.int .i64 j1)] (Eq.mpr (eq_impl_number i0 j1 w K) h)

-- uses S5Made
theorem c_impl_number {i j : Int} {w : World} {K : Int → World → Prop} (h0 : 0 ≤ i) (h1 : i ≤ 17) (k0 : 0 ≤ j) (k1 : j ≤ 17) (hK : K (num i j) w) : Fc Try.prog F_impl_number #[.int .i64 i, .int .i64 j] w (.one (.int .i64)) K := by
  refine walk_impl_number _ _ (mn (mx ⟨by decide, ?_⟩))
  by_cases h : i < j
  · rw [if_pos (show j > i from h), if_neg (by omega), wnum h0 h1 k0 k1]
    rwa [num_of h] at hK
  · rw [if_neg (show ¬ j > i from h)]
    unfold num at hK
    rw [if_neg h] at hK
    by_cases h' : j < i
    · rw [if_pos h', wnum k0 k1 h0 h1]; exact hK
    · have : i = j := by omega
      subst this
      rw [if_neg h', wnum k0 k1 h0 h1]; exact hK

end Go.Proofs.Ytkadckhealbdaaa

/- The reading of impl_Colouring_at, and its contract. No condition. -/
namespace Go.Proofs.Ytkadckhealbdaaa
open Go Go.RowKit Eng Mem
set_option linter.unusedVariables false
set_option maxRecDepth 100000
def V_impl_Colouring_at (x0 : Value) (i1 : Int) (j2 : Int) (w : World) (K : Int → World → Prop) : Prop :=
  (∀ w_1, Drew w w_1 → (NilOk x0 ∧ (QAll Try.prog (Instr.fieldAt 25 x0 2) .any fun (x12_2 : Value) => (Fc Try.prog 115 #[(.int .i64 i1), (.int .i64 j2)] w_1 (.one (.int .i64)) fun (x10_4 : Int) w_3 => (Keeps w_1 w_3 ((QAll Try.prog (Instr.indexAt 22 x12_2 (.int .i64 x10_4)) .any fun (x13_5 : Value) => (QSub Try.prog (Instr.loadAt 5 x13_5) w_3 (.int .u8) fun (x14_6 : Int) => (QAll Try.prog (convert 5 2 (.int .u8 x14_6)) (.int .i64) fun (x15_7 : Int) => K x15_7 w_3)))))))))

theorem eq_impl_Colouring_at (x0 : Value) (i1 : Int) (j2 : Int) (w : World) (K : Int → World → Prop) :
    W Try.prog ty (fun _ _ _ _ => False) (bodyOf Try.f89) (fnPost Try.prog Try.f89.results.toList (.one (.int .i64)) K) (frame0 [x0, (.int .i64 i1), (.int .i64 j2)] 16) w = V_impl_Colouring_at x0 i1 j2 w K := by
  kernel_rfl

theorem body_impl_Colouring_at : Try.f89.body = some (bodyOf Try.f89) := by kernel_rfl
theorem name_impl_Colouring_at : (Try.f89.name == "runtime.NumGoroutine") = false := by kernel_rfl

theorem walk_impl_Colouring_at (x0 : Value) (i1 : Int) (j2 : Int) {w : World} {K : Int → World → Prop} (h : V_impl_Colouring_at x0 i1 j2 w K) : Fc Try.prog 89 #[x0, (.int .i64 i1), (.int .i64 j2)] w (.one (.int .i64)) K :=
  fn_ok follows (sound_none _) Try.func89 name_impl_Colouring_at body_impl_Colouring_at Try.ntmps89 [x0, (.int .i64 i1), (.int .i64 j2)] (Eq.mpr (eq_impl_Colouring_at x0 i1 j2 w K) h)

-- uses S5Made
theorem c_impl_Colouring_at {p : Value} {c : Col} {i j : Int} {w : World} {K : Int → World → Prop} (hc : c.Ok) (hx : ColAt w p c) (h0 : 0 ≤ i) (h1 : i < 17) (k0 : 0 ≤ j) (k1 : j < 17) (hne : i ≠ j) (hK : ∀ w', Below w.heap.size w w' → K (c.e (num i j).toNat) w') :
    Fc Try.prog F_impl_Colouring_at #[p, .int .i64 i, .int .i64 j] w (.one (.int .i64)) K := by
  refine walk_impl_Colouring_at _ _ _ ?_
  intro w1 hd
  have hb := hd.below w.heap.size
  have hx := hx.keep hb
  have hn := num_lt h0 h1 k0 k1 (Int.le_refl _) hne
  rw [show edgesOf 17 = 136 from by decide] at hn
  have hbd := hc.e_bd (num i j).toNat
  exact ⟨hx.nonnil, fld f2 hx.nonnil hx.isPtr (c_impl_number h0 (by omega) k0 (by omega) ⟨Below.refl _ _, es_e hc (Col.es_row hx) hn.1 hn.2 (u8_int hbd.1 hbd.2 (hK w1 hb))⟩)⟩

end Go.Proofs.Ytkadckhealbdaaa

/- The reading of impl_Colouring_joins, and its contract. No condition. -/
namespace Go.Proofs.Ytkadckhealbdaaa
open Go Go.RowKit Eng Mem
set_option linter.unusedVariables false
set_option maxRecDepth 100000
def V_impl_Colouring_joins (x0 : Value) (i1 : Int) (j2 : Int) (c3 : Int) (w : World) (K : Bool → World → Prop) : Prop :=
  (((i1 != j2) = true → (Fc Try.prog 89 #[x0, (.int .i64 i1), (.int .i64 j2)] w (.one (.int .i64)) fun (x16_2 : Int) w_1 => K (x16_2 == c3) w_1)) ∧ ((i1 != j2) = false → K false w))

theorem eq_impl_Colouring_joins (x0 : Value) (i1 : Int) (j2 : Int) (c3 : Int) (w : World) (K : Bool → World → Prop) :
    W Try.prog ty (fun _ _ _ _ => False) (bodyOf Try.f129) (fnPost Try.prog Try.f129.results.toList (.one .bool) K) (frame0 [x0, (.int .i64 i1), (.int .i64 j2), (.int .i64 c3)] 20) w = V_impl_Colouring_joins x0 i1 j2 c3 w K := by
  kernel_rfl

theorem body_impl_Colouring_joins : Try.f129.body = some (bodyOf Try.f129) := by kernel_rfl
theorem name_impl_Colouring_joins : (Try.f129.name == "runtime.NumGoroutine") = false := by kernel_rfl

theorem walk_impl_Colouring_joins (x0 : Value) (i1 : Int) (j2 : Int) (c3 : Int) {w : World} {K : Bool → World → Prop} (h : V_impl_Colouring_joins x0 i1 j2 c3 w K) : Fc Try.prog 129 #[x0, (.int .i64 i1), (.int .i64 j2), (.int .i64 c3)] w (.one .bool) K :=
  fn_ok follows (sound_none _) Try.func129 name_impl_Colouring_joins body_impl_Colouring_joins Try.ntmps129 [x0, (.int .i64 i1), (.int .i64 j2), (.int .i64 c3)] (Eq.mpr (eq_impl_Colouring_joins x0 i1 j2 c3 w K) h)

-- uses S8Deg
theorem c_impl_Colouring_joins {p : Value} {c : Col} {i j col : Int} {w : World} {K : Bool → World → Prop} (hc : c.Ok) (hx : ColAt w p c) (h0 : 0 ≤ i) (h1 : i < 17) (k0 : 0 ≤ j) (k1 : j < 17) (hK : ∀ w', Below w.heap.size w w' → K (joinB c i j col) w') :
    Fc Try.prog F_impl_Colouring_joins #[p, .int .i64 i, .int .i64 j, .int .i64 col] w (.one .bool) K := by
  refine walk_impl_Colouring_joins _ _ _ _ ⟨fun hne => c_impl_Colouring_at hc hx h0 h1 k0 k1 (ne_t hne) fun w1 hb1 => ?_, fun he => ?_⟩
  · have := hK w1 hb1
    have e : joinB c i j col = (c.e (num i j).toNat == col) := by
      have hne := ne_t hne
      unfold joinB colAt
      by_cases h : c.e (num i j).toNat = col
      · simp [h, hne]
      · simp [h]
    rwa [e] at this
  · have := hK w (Below.refl _ _)
    have he := ne_f he
    rwa [show joinB c i j col = false from by simp [joinB, he]] at this

end Go.Proofs.Ytkadckhealbdaaa

/- The reading of impl_Colouring_hasClique, and its contract. No condition. -/
namespace Go.Proofs.Ytkadckhealbdaaa
open Go Go.RowKit Eng Mem
set_option linter.unusedVariables false
set_option maxRecDepth 100000
def B_impl_Colouring_hasClique_10 (x0 : Value) (c1 : Int) (m2 : Int) (points3 : Value) (p10 : Int) (x20 : Value) (x21 : Int) (x22 : Int) (x31 : Value) (x32 : Int) (rest11 : Value) (x33 : Int) (N : (Value × Int × Int × Value × Int × Value × Int × Int × Value × Int) → (Value × Int) → World → Prop) (D2 : (Value × Int × Int × Value × Value × Value × Int × Int × Unit) → World → Prop) (w : World) : Prop :=
  (((decide (x33 < x32)) = true → (QAll Try.prog (Instr.indexAt 31 x31 (.int .i64 x33)) .any fun (x35_10 : Value) => (QSub Try.prog (Instr.loadAt 2 x35_10) w (.int .i64) fun (x36_11 : Int) => (Fc Try.prog 129 #[x0, (.int .i64 p10), (.int .i64 x36_11), (.int .i64 c1)] w (.one .bool) fun (x41_13 : Bool) w_12 => ((x41_13 = true → (Pr Try.prog (Instr.buildSlice 31 1 #[(0, (.int .i64 x36_11))]) w_12 (.one .any) fun (x44_15 : Value) w_14 => (Pr Try.prog (Builtin.append_ #[31, 31] 31 #[rest11, x44_15]) w_14 (.one .any) fun (x45_17 : Value) w_16 => N ((x0 : Value), c1, m2, (points3 : Value), p10, (x20 : Value), x21, x22, (x31 : Value), x32) ((x45_17 : Value), (IntKind.i64.wrap (x33 + (1 : Int)))) w_16))) ∧ (x41_13 = false → N ((x0 : Value), c1, m2, (points3 : Value), p10, (x20 : Value), x21, x22, (x31 : Value), x32) ((rest11 : Value), (IntKind.i64.wrap (x33 + (1 : Int)))) w_12)))))) ∧ ((decide (x33 < x32)) = false → D2 ((x0 : Value), c1, m2, (points3 : Value), (rest11 : Value), (x20 : Value), x21, x22, ()) w))

abbrev L_impl_Colouring_hasClique_10_e2 : List Slot := [.k .any, .k (.int .i64), .k (.int .i64), .k .any, .junk, .junk, .junk, .junk, .junk, .junk, .junk, .k .any, .junk, .junk, .junk, .junk, .junk, .junk, .junk, .junk, .k .any, .k (.int .i64), .k (.int .i64), .junk, .junk, .junk, .junk, .junk, .junk, .junk, .junk, .junk, .junk, .junk, .junk, .junk, .junk, .junk, .junk, .junk, .junk, .junk, .junk, .junk, .junk, .junk, .junk, .junk, .junk, .junk, .junk, .junk, .junk, .junk]

abbrev L_impl_Colouring_hasClique_10_sp : List Slot := [.k .any, .k (.int .i64), .k (.int .i64), .k .any, .junk, .junk, .junk, .junk, .junk, .junk, .k (.int .i64), .k .any, .junk, .junk, .junk, .junk, .junk, .junk, .junk, .junk, .k .any, .k (.int .i64), .k (.int .i64), .junk, .junk, .junk, .junk, .junk, .junk, .junk, .junk, .k .any, .k (.int .i64), .k (.int .i64), .junk, .junk, .junk, .junk, .junk, .junk, .junk, .junk, .junk, .junk, .junk, .junk, .junk, .junk, .junk, .junk, .junk, .junk, .junk, .junk]
abbrev L_impl_Colouring_hasClique_10_ex : List (Nat × List Slot) := [(2, L_impl_Colouring_hasClique_10_e2)]
abbrev L_impl_Colouring_hasClique_10_rt : List Slot := [.junk, .junk, .junk, .junk, .junk, .junk, .junk, .junk, .junk, .junk, .junk, .junk, .junk, .junk, .junk, .junk, .junk, .junk, .junk, .junk, .junk, .junk, .junk, .junk, .junk, .junk, .junk, .junk, .junk, .junk, .junk, .junk, .junk, .junk, .junk, .junk, .junk, .junk, .junk, .junk, .junk, .junk, .junk, .junk, .junk, .junk, .junk, .junk, .junk, .junk, .junk, .junk, .junk, .junk]

def L_impl_Colouring_hasClique_10_b (Φ : Post) (u : (Value × Int × Int × Value × Int × Value × Int × Int × Value × Int)) (N : (Value × Int × Int × Value × Int × Value × Int × Int × Value × Int) → (Value × Int) → World → Prop) (s : (Value × Int)) (w : World) : Prop :=
  B_impl_Colouring_hasClique_10 u.1 u.2.1 u.2.2.1 u.2.2.2.1 u.2.2.2.2.1 u.2.2.2.2.2.1 u.2.2.2.2.2.2.1 u.2.2.2.2.2.2.2.1 u.2.2.2.2.2.2.2.2.1 u.2.2.2.2.2.2.2.2.2 s.1 s.2 N (fun v w => ∀ j : Nat → Value, Φ (.exit 2) (mkT j 0 L_impl_Colouring_hasClique_10_e2 v) w) w

theorem L_impl_Colouring_hasClique_10_eq (j : Nat → Value) (u : (Value × Int × Int × Value × Int × Value × Int × Int × Value × Int)) (s : (Value × Int)) (N : (Value × Int × Int × Value × Int × Value × Int × Int × Value × Int) → (Value × Int) → World → Prop) (D2 : (Value × Int × Int × Value × Value × Value × Int × Int × Unit) → World → Prop) (R : (Unit) → World → Prop) (w : World) :
    W Try.prog ty (fun _ _ _ _ => False) (loopAt Try.f130 10) (loopPost L_impl_Colouring_hasClique_10_sp [(2, (⟨L_impl_Colouring_hasClique_10_e2, D2⟩ : Door))] ⟨L_impl_Colouring_hasClique_10_rt, R⟩ (fun v w => N ((fun v => (v.1, v.2.1, v.2.2.1, v.2.2.2.1, v.2.2.2.2.1, v.2.2.2.2.2.2.1, v.2.2.2.2.2.2.2.1, v.2.2.2.2.2.2.2.2.1, v.2.2.2.2.2.2.2.2.2.1, v.2.2.2.2.2.2.2.2.2.2.1)) v) ((fun v => (v.2.2.2.2.2.1, v.2.2.2.2.2.2.2.2.2.2.2.1)) v) w)) (mkT j 0 L_impl_Colouring_hasClique_10_sp ((fun u s => (u.1, u.2.1, u.2.2.1, u.2.2.2.1, u.2.2.2.2.1, s.1, u.2.2.2.2.2.1, u.2.2.2.2.2.2.1, u.2.2.2.2.2.2.2.1, u.2.2.2.2.2.2.2.2.1, u.2.2.2.2.2.2.2.2.2, s.2, ())) u s)) w =
    B_impl_Colouring_hasClique_10 u.1 u.2.1 u.2.2.1 u.2.2.2.1 u.2.2.2.2.1 u.2.2.2.2.2.1 u.2.2.2.2.2.2.1 u.2.2.2.2.2.2.2.1 u.2.2.2.2.2.2.2.2.1 u.2.2.2.2.2.2.2.2.2 s.1 s.2 N D2 w := by
  kernel_rfl

def O_impl_Colouring_hasClique_1 : Code → Post → List SV → World → Prop :=
  orc 10 (loopAt Try.f130 10) L_impl_Colouring_hasClique_10_sp (fun Φ fr w => LOOP (U := (Value × Int × Int × Value × Int × Value × Int × Int × Value × Int)) (S := (Value × Int)) ((fun v => (v.1, v.2.1, v.2.2.1, v.2.2.2.1, v.2.2.2.2.1, v.2.2.2.2.2.2.1, v.2.2.2.2.2.2.2.1, v.2.2.2.2.2.2.2.2.1, v.2.2.2.2.2.2.2.2.2.1, v.2.2.2.2.2.2.2.2.2.2.1)) (extT L_impl_Colouring_hasClique_10_sp fr)) (L_impl_Colouring_hasClique_10_b Φ ((fun v => (v.1, v.2.1, v.2.2.1, v.2.2.2.1, v.2.2.2.2.1, v.2.2.2.2.2.2.1, v.2.2.2.2.2.2.2.1, v.2.2.2.2.2.2.2.2.1, v.2.2.2.2.2.2.2.2.2.1, v.2.2.2.2.2.2.2.2.2.2.1)) (extT L_impl_Colouring_hasClique_10_sp fr))) ((fun v => (v.2.2.2.2.2.1, v.2.2.2.2.2.2.2.2.2.2.2.1)) (extT L_impl_Colouring_hasClique_10_sp fr)) w) (fun _ _ _ _ => False)

theorem O_impl_Colouring_hasClique_1_ok : Sound Try.prog O_impl_Colouring_hasClique_1 :=
  orc_ok (sound_none _) fun Φ fr w hs h => loop_ok (ty := ty) follows (sound_none _) L_impl_Colouring_hasClique_10_sp (fun v => (v.1, v.2.1, v.2.2.1, v.2.2.2.1, v.2.2.2.2.1, v.2.2.2.2.2.2.1, v.2.2.2.2.2.2.2.1, v.2.2.2.2.2.2.2.2.1, v.2.2.2.2.2.2.2.2.2.1, v.2.2.2.2.2.2.2.2.2.2.1)) (fun v => (v.2.2.2.2.2.1, v.2.2.2.2.2.2.2.2.2.2.2.1)) (fun u s => (u.1, u.2.1, u.2.2.1, u.2.2.2.1, u.2.2.2.2.1, s.1, u.2.2.2.2.2.1, u.2.2.2.2.2.2.1, u.2.2.2.2.2.2.2.1, u.2.2.2.2.2.2.2.2.1, u.2.2.2.2.2.2.2.2.2, s.2, ())) (fun _ => rfl) L_impl_Colouring_hasClique_10_ex L_impl_Colouring_hasClique_10_rt (body := L_impl_Colouring_hasClique_10_b Φ) (fun j u s w N hb => by
    have e := L_impl_Colouring_hasClique_10_eq j u s N (doorOf Φ (.exit 2) L_impl_Colouring_hasClique_10_e2).D (doorOf Φ .ret L_impl_Colouring_hasClique_10_rt).D w
    exact Eq.mpr e hb) hs h

def B_impl_Colouring_hasClique_6 (x0 : Value) (c1 : Int) (m2 : Int) (points3 : Value) (x20 : Value) (x21 : Int) (x22 : Int) (N : (Value × Int × Int × Value × Value × Int) → Int → World → Prop) (D0 : (Unit) → World → Prop) (R : (Bool × Unit) → World → Prop) (w : World) : Prop :=
  (((decide (x22 < x21)) = true → (QAll Try.prog (Instr.indexAt 31 x20 (.int .i64 x22)) .any fun (x25_4 : Value) => (QSub Try.prog (Instr.loadAt 2 x25_4) w (.int .i64) fun (x26_5 : Int) => (Pr Try.prog (Instr.buildSlice 31 0 #[]) w (.one .any) fun (x27_7 : Value) w_6 => (QAll Try.prog (Instr.sliceAt 31 points3 (some (.int .i64 (IntKind.i64.wrap (x22 + (1 : Int))))) none none) .any fun (x31_8 : Value) => (QAll Try.prog (Builtin.len_ #[31] 3 #[x31_8]) (.int .i64) fun (x32_9 : Int) => (At (loopAt Try.f130 10) (loopAt Try.f130 10) (LOOP (U := (Value × Int × Int × Value × Int × Value × Int × Int × Value × Int)) (S := (Value × Int)) ((x0 : Value), c1, m2, (points3 : Value), x26_5, (x20 : Value), x21, x22, (x31_8 : Value), x32_9) (fun N_23 s_24 w_25 => B_impl_Colouring_hasClique_10 (x0 : Value) c1 m2 (points3 : Value) x26_5 (x20 : Value) x21 x22 (x31_8 : Value) x32_9 s_24.1 s_24.2 N_23 (fun (v_18 : (Value × Int × Int × Value × Value × Value × Int × Int × Unit)) w_19 => ∀ _j_20 : Nat → Value, (Fc Try.prog 130 #[v_18.1, (.int .i64 v_18.2.1), (.int .i64 (IntKind.i64.wrap (v_18.2.2.1 - (1 : Int)))), v_18.2.2.2.2.1] w_19 (.one .bool) fun (x52_22 : Bool) w_21 => ((x52_22 = true → R (true, ()) w_21) ∧ (x52_22 = false → N ((v_18.1 : Value), v_18.2.1, v_18.2.2.1, (v_18.2.2.2.1 : Value), (v_18.2.2.2.2.2.1 : Value), v_18.2.2.2.2.2.2.1) (IntKind.i64.wrap (v_18.2.2.2.2.2.2.2.1 + (1 : Int))) w_21)))) w_25) ((x27_7 : Value), (0 : Int)) w_6)))))))) ∧ ((decide (x22 < x21)) = false → D0 () w))

abbrev L_impl_Colouring_hasClique_6_e0 : List Slot := [.junk, .junk, .junk, .junk, .junk, .junk, .junk, .junk, .junk, .junk, .junk, .junk, .junk, .junk, .junk, .junk, .junk, .junk, .junk, .junk, .junk, .junk, .junk, .junk, .junk, .junk, .junk, .junk, .junk, .junk, .junk, .junk, .junk, .junk, .junk, .junk, .junk, .junk, .junk, .junk, .junk, .junk, .junk, .junk, .junk, .junk, .junk, .junk, .junk, .junk, .junk, .junk, .junk, .junk]

abbrev L_impl_Colouring_hasClique_6_sp : List Slot := [.k .any, .k (.int .i64), .k (.int .i64), .k .any, .junk, .junk, .junk, .junk, .junk, .junk, .junk, .junk, .junk, .junk, .junk, .junk, .junk, .junk, .junk, .junk, .k .any, .k (.int .i64), .k (.int .i64), .junk, .junk, .junk, .junk, .junk, .junk, .junk, .junk, .junk, .junk, .junk, .junk, .junk, .junk, .junk, .junk, .junk, .junk, .junk, .junk, .junk, .junk, .junk, .junk, .junk, .junk, .junk, .junk, .junk, .junk, .junk]
abbrev L_impl_Colouring_hasClique_6_ex : List (Nat × List Slot) := [(0, L_impl_Colouring_hasClique_6_e0)]
abbrev L_impl_Colouring_hasClique_6_rt : List Slot := [.junk, .junk, .junk, .junk, .junk, .junk, .junk, .junk, .k .bool, .junk, .junk, .junk, .junk, .junk, .junk, .junk, .junk, .junk, .junk, .junk, .junk, .junk, .junk, .junk, .junk, .junk, .junk, .junk, .junk, .junk, .junk, .junk, .junk, .junk, .junk, .junk, .junk, .junk, .junk, .junk, .junk, .junk, .junk, .junk, .junk, .junk, .junk, .junk, .junk, .junk, .junk, .junk, .junk, .junk]

def L_impl_Colouring_hasClique_6_b (Φ : Post) (u : (Value × Int × Int × Value × Value × Int)) (N : (Value × Int × Int × Value × Value × Int) → Int → World → Prop) (s : Int) (w : World) : Prop :=
  B_impl_Colouring_hasClique_6 u.1 u.2.1 u.2.2.1 u.2.2.2.1 u.2.2.2.2.1 u.2.2.2.2.2 s N (fun v w => ∀ j : Nat → Value, Φ (.exit 0) (mkT j 0 L_impl_Colouring_hasClique_6_e0 v) w) (fun v w => ∀ j : Nat → Value, Φ .ret (mkT j 0 L_impl_Colouring_hasClique_6_rt v) w) w

theorem L_impl_Colouring_hasClique_6_eq (j : Nat → Value) (u : (Value × Int × Int × Value × Value × Int)) (s : Int) (N : (Value × Int × Int × Value × Value × Int) → Int → World → Prop) (D0 : (Unit) → World → Prop) (R : (Bool × Unit) → World → Prop) (w : World) :
    W Try.prog ty O_impl_Colouring_hasClique_1 (loopAt Try.f130 6) (loopPost L_impl_Colouring_hasClique_6_sp [(0, (⟨L_impl_Colouring_hasClique_6_e0, D0⟩ : Door))] ⟨L_impl_Colouring_hasClique_6_rt, R⟩ (fun v w => N ((fun v => (v.1, v.2.1, v.2.2.1, v.2.2.2.1, v.2.2.2.2.1, v.2.2.2.2.2.1)) v) ((fun v => v.2.2.2.2.2.2.1) v) w)) (mkT j 0 L_impl_Colouring_hasClique_6_sp ((fun u s => (u.1, u.2.1, u.2.2.1, u.2.2.2.1, u.2.2.2.2.1, u.2.2.2.2.2, s, ())) u s)) w =
    B_impl_Colouring_hasClique_6 u.1 u.2.1 u.2.2.1 u.2.2.2.1 u.2.2.2.2.1 u.2.2.2.2.2 s N D0 R w := by
  kernel_rfl

def O_impl_Colouring_hasClique_2 : Code → Post → List SV → World → Prop :=
  orc 6 (loopAt Try.f130 6) L_impl_Colouring_hasClique_6_sp (fun Φ fr w => LOOP (U := (Value × Int × Int × Value × Value × Int)) (S := Int) ((fun v => (v.1, v.2.1, v.2.2.1, v.2.2.2.1, v.2.2.2.2.1, v.2.2.2.2.2.1)) (extT L_impl_Colouring_hasClique_6_sp fr)) (L_impl_Colouring_hasClique_6_b Φ ((fun v => (v.1, v.2.1, v.2.2.1, v.2.2.2.1, v.2.2.2.2.1, v.2.2.2.2.2.1)) (extT L_impl_Colouring_hasClique_6_sp fr))) ((fun v => v.2.2.2.2.2.2.1) (extT L_impl_Colouring_hasClique_6_sp fr)) w) O_impl_Colouring_hasClique_1

theorem O_impl_Colouring_hasClique_2_ok : Sound Try.prog O_impl_Colouring_hasClique_2 :=
  orc_ok O_impl_Colouring_hasClique_1_ok fun Φ fr w hs h => loop_ok (ty := ty) follows O_impl_Colouring_hasClique_1_ok L_impl_Colouring_hasClique_6_sp (fun v => (v.1, v.2.1, v.2.2.1, v.2.2.2.1, v.2.2.2.2.1, v.2.2.2.2.2.1)) (fun v => v.2.2.2.2.2.2.1) (fun u s => (u.1, u.2.1, u.2.2.1, u.2.2.2.1, u.2.2.2.2.1, u.2.2.2.2.2, s, ())) (fun _ => rfl) L_impl_Colouring_hasClique_6_ex L_impl_Colouring_hasClique_6_rt (body := L_impl_Colouring_hasClique_6_b Φ) (fun j u s w N hb => by
    have e := L_impl_Colouring_hasClique_6_eq j u s N (doorOf Φ (.exit 0) L_impl_Colouring_hasClique_6_e0).D (doorOf Φ .ret L_impl_Colouring_hasClique_6_rt).D w
    exact Eq.mpr e hb) hs h

def V_impl_Colouring_hasClique (x0 : Value) (c1 : Int) (m2 : Int) (points3 : Value) (w : World) (K : Bool → World → Prop) : Prop :=
  (((decide (m2 ≤ (0 : Int))) = true → K true w) ∧ ((decide (m2 ≤ (0 : Int))) = false → (Fc Try.prog 58 #[points3] w (.one (.int .i64)) fun (x17_2 : Int) w_1 => (((decide (x17_2 < m2)) = true → K false w_1) ∧ ((decide (x17_2 < m2)) = false → (QAll Try.prog (Builtin.len_ #[31] 3 #[points3]) (.int .i64) fun (x21_3 : Int) => (At (loopAt Try.f130 6) (loopAt Try.f130 6) (LOOP (U := (Value × Int × Int × Value × Value × Int)) (S := Int) ((x0 : Value), c1, m2, (points3 : Value), (points3 : Value), x21_3) (fun N_32 s_33 w_34 => B_impl_Colouring_hasClique_6 (x0 : Value) c1 m2 (points3 : Value) (points3 : Value) x21_3 s_33 N_32 (fun (v_26 : (Unit)) w_27 => ∀ _j_28 : Nat → Value, K false w_27) (fun (v_29 : (Bool × Unit)) w_30 => ∀ _j_31 : Nat → Value, K v_29.1 w_30) w_34) (0 : Int) w_1))))))))

theorem eq_impl_Colouring_hasClique (x0 : Value) (c1 : Int) (m2 : Int) (points3 : Value) (w : World) (K : Bool → World → Prop) :
    W Try.prog ty O_impl_Colouring_hasClique_2 (bodyOf Try.f130) (fnPost Try.prog Try.f130.results.toList (.one .bool) K) (frame0 [x0, (.int .i64 c1), (.int .i64 m2), points3] 54) w = V_impl_Colouring_hasClique x0 c1 m2 points3 w K := by
  kernel_rfl

theorem body_impl_Colouring_hasClique : Try.f130.body = some (bodyOf Try.f130) := by kernel_rfl
theorem name_impl_Colouring_hasClique : (Try.f130.name == "runtime.NumGoroutine") = false := by kernel_rfl

theorem walk_impl_Colouring_hasClique (x0 : Value) (c1 : Int) (m2 : Int) (points3 : Value) {w : World} {K : Bool → World → Prop} (h : V_impl_Colouring_hasClique x0 c1 m2 points3 w K) : Fc Try.prog 130 #[x0, (.int .i64 c1), (.int .i64 m2), points3] w (.one .bool) K :=
  fn_ok follows O_impl_Colouring_hasClique_2_ok Try.func130 name_impl_Colouring_hasClique body_impl_Colouring_hasClique Try.ntmps130 [x0, (.int .i64 c1), (.int .i64 m2), points3] (Eq.mpr (eq_impl_Colouring_hasClique x0 c1 m2 points3 w K) h)

-- uses S9AvoM
theorem c_impl_Colouring_hasClique {px : Value} {x : Col} {c : Int} (hx : x.Ok) :
    ∀ (r : Nat) (m : Int) (pts : List Int) (v : Value) (w : World) (K : Bool → World → Prop), m.toNat = r → -1000 ≤ m → m ≤ 1000 → ColAt w px x → SlI w v pts → pts.length ≤ 1000 → (∀ p ∈ pts, 0 ≤ p ∧ p < 17) → (∀ w', Below w.heap.size w w' → K (clqP (fun p q => joinB x p q c) m.toNat pts) w') →
      Fc Try.prog F_impl_Colouring_hasClique #[px, .int .i64 c, .int .i64 m, v] w (.one .bool) K
  | r, m, pts, v, w, K, hr, hm0, hm1, ax, hv, hpl, hp, hK => by
    refine walk_impl_Colouring_hasClique _ _ _ _ ⟨fun h => ?_, fun h => c_impl_sizeS hv ⟨fun h2 => ?_, fun h2 => lenI hv ?_⟩⟩
    · have h := dec_t h
      have := hK w (Below.refl _ _)
      rwa [show m.toNat = 0 from by omega] at this
    · have h2 := dec_t h2
      have := hK w (Below.refl _ _)
      rwa [show clqP (fun p q => joinB x p q c) m.toNat pts = false from by
        rw [Bool.eq_false_iff]
        intro hc
        have := clqP_len _ _ hc
        omega] at this
    have h := dec_f h
    match r, hr with
    | 0, hr => omega
    | r + 1, hr =>
    rw [hr, clqP] at hK
    refine lp (fun s w' => Below w.heap.size w w' ∧ ∃ k : Nat, s = k ∧ k ≤ pts.length ∧ clqT (fun p t => clqP (fun p q => joinB x p q c) r (t.filter ((fun p q => joinB x p q c) p))) (pts.drop k) = clqT (fun p t => clqP (fun p q => joinB x p q c) r (t.filter ((fun p q => joinB x p q c) p))) pts) (fun s _ => (pts.length - s).toNat) ⟨Below.refl _ _, 0, rfl, by omega, rfl⟩ ?_
    rintro t w2 N ⟨q2, k, hk, hkl, hR⟩ hN
    subst hk
    unfold B_impl_Colouring_hasClique_6
    refine ⟨fun hlt => ?_, fun hge => ?_⟩
    · have hlt := dec_t hlt
      have hkl : k < pts.length := by omega
      have hv2 := hv.keep q2
      refine atI hv2 (by omega) hlt (nilI fun b0 v0 w3 e0 q3 o0 => ?_)
      rw [Int.toNat_natCast]
      obtain ⟨p, hpe⟩ : ∃ p, pts.getD k 0 = p := ⟨_, rfl⟩
      have hpk : pts[k] = p := by rw [← hpe]; simp [List.getD, hkl]
      have hpb := hp p (by rw [← hpk]; exact List.getElem_mem hkl)
      rw [hpe]
      have hdrop : pts.drop k = p :: pts.drop (k + 1) := by rw [List.drop_eq_getElem_cons hkl, hpk]
      rw [hdrop, clqT] at hR
      have q23 := q2.trans (q3.mono q2.size)
      have hv3 := hv.keep q23
      rw [wrap_small (n := (k : Int) + 1) (by omega) (by omega)]
      refine dropI hv3 (by omega) (by omega) (fun h => by rw [h] at hkl; simp at hkl) fun v' hv' => ?_
      rw [show ((k : Int) + 1).toNat = k + 1 from by omega] at hv'
      have hd3 := hv' _ hv3
      have hdl : (pts.drop (k + 1)).length ≤ 1000 := by simp; omega
      obtain ⟨rest, hrest⟩ : ∃ rest, pts.drop (k + 1) = rest := ⟨_, rfl⟩
      rw [hrest] at hR hd3 hdl hv'
      have hrp : ∀ y ∈ rest, 0 ≤ y ∧ y < 17 := fun y hy => hp y (by rw [← hrest] at hy; exact List.mem_of_mem_drop hy)
      refine lenI hd3 ?_
      refine lp (fun s w' => Below w2.heap.size w2 w' ∧ ∃ (i b : Nat), s.2 = i ∧ i ≤ rest.length ∧ w2.heap.size ≤ b ∧ OwnI w' b s.1 ((rest.take i).filter fun y => joinB x p y c)) (fun s _ => (rest.length - s.2).toNat) ⟨q3, 0, b0, rfl, by omega, by omega, by simpa using o0⟩ ?_
      rintro ⟨u, t⟩ w4 N' ⟨q4, i, b, hi, hil, hb, ho⟩ hN'
      simp only at hi ho
      subst hi
      unfold B_impl_Colouring_hasClique_10
      dsimp only
      have q24 := q2.trans (q4.mono q2.size)
      refine ⟨fun hlt2 => ?_, fun hge2 => ?_⟩
      · have hlt2 := dec_t hlt2
        have hil' : i < rest.length := by omega
        have htk : rest.take (i + 1) = rest.take i ++ [rest.getD i 0] := by rw [List.take_succ_eq_append_getElem hil']; simp [hil']
        have hyb := hrp (rest.getD i 0) (by
          have e : rest.getD i 0 = rest[i] := by simp [List.getD, hil']
          rw [e]; exact List.getElem_mem hil')
        have hfl : ((rest.take i).filter fun y => joinB x p y c).length ≤ 1000 := Nat.le_trans (List.length_filter_le _ _) (by simp; omega)
        refine atI (hv' _ (hv.keep q24)) (by omega) hlt2 ?_
        rw [Int.toNat_natCast]
        refine c_impl_Colouring_joins hx (ax.keep q24) hpb.1 hpb.2 hyb.1 hyb.2 fun w5 q5 => ?_
        have q25 := q4.trans (q5.mono q4.size)
        have hs5 := q25.size
        rw [wrap_small (n := (i : Int) + 1) (by omega) (by omega)]
        refine ⟨fun hy => ?_, fun hn => ?_⟩
        · refine appI (ho.keep q5) (by omega) fun u' w6 b' o6 m6 hb6 => ?_
          refine hN' _ _ ⟨q25.trans (m6.below (by omega) (by simp; omega)), i + 1, b', by simp only; omega, by omega, by omega, ?_⟩ (by simp only; omega)
          rw [htk, List.filter_append]
          simp only [List.filter_cons, hy, if_true, List.filter_nil]
          exact o6
        · refine hN' _ _ ⟨q25, i + 1, b, by simp only; omega, by omega, hb, ?_⟩ (by simp only; omega)
          rw [htk, List.filter_append]
          simp only [List.filter_cons, hn, List.filter_nil, List.append_nil]
          simpa using ho.keep q5
      · have hge2 := dec_f hge2
        have : i = rest.length := by omega
        subst this
        rw [List.take_length] at ho
        intro _
        try dsimp only
        rw [wrap_small (n := m - 1) (by omega) (by omega)]
        have hfl : (rest.filter fun y => joinB x p y c).length ≤ rest.length := List.length_filter_le _ _
        refine c_impl_Colouring_hasClique hx r (m - 1) _ u w4 _ (by omega) (by omega) (by omega) (ax.keep q24) (own_slI ho (by omega)) (by omega) (fun y hy => hrp y (List.mem_filter.1 hy).1) fun w5 q5 => ?_
        rw [show (m - 1).toNat = r from by omega]
        have q25 := q24.trans (q5.mono q24.size)
        refine ⟨fun hy => ?_, fun hn => ?_⟩
        · intro _
          have := hK w5 q25
          rw [← hR, hy, Bool.true_or] at this
          exact this
        · rw [wrap_small (by omega) (by omega)]
          refine hN _ _ ⟨q25, k + 1, by omega, by omega, ?_⟩ (by omega)
          rw [hrest, ← hR, hn, Bool.false_or]
    · have hge := dec_f hge
      have : k = pts.length := by omega
      subst this
      intro _
      have := hK w2 q2
      rw [← hR, List.drop_length] at this
      exact this

end Go.Proofs.Ytkadckhealbdaaa

/- The reading of impl_Colouring_put, and its contract. No condition. -/
namespace Go.Proofs.Ytkadckhealbdaaa
open Go Go.RowKit Eng Mem
set_option linter.unusedVariables false
set_option maxRecDepth 100000
def V_impl_Colouring_put (x0 : Value) (i1 : Int) (j2 : Int) (c3 : Int) (w : World) (K : Unit → World → Prop) : Prop :=
  (∀ w_1, Drew w w_1 → (QAll Try.prog (convert 2 5 (.int .i64 c3)) (.int .u8) fun (x13_2 : Int) => (NilOk x0 ∧ (QAll Try.prog (Instr.fieldAt 25 x0 2) .any fun (x15_3 : Value) => (Fc Try.prog 115 #[(.int .i64 i1), (.int .i64 j2)] w_1 (.one (.int .i64)) fun (x11_5 : Int) w_4 => (QAll Try.prog (Instr.indexAt 22 x15_3 (.int .i64 x11_5)) .any fun (x16_6 : Value) => (PrU Try.prog (Instr.storeAt 5 x16_6 (.int .u8 x13_2)) w_4 fun w_7 => K () w_7)))))))

theorem eq_impl_Colouring_put (x0 : Value) (i1 : Int) (j2 : Int) (c3 : Int) (w : World) (K : Unit → World → Prop) :
    W Try.prog ty (fun _ _ _ _ => False) (bodyOf Try.f114) (fnPost Try.prog Try.f114.results.toList .unit K) (frame0 [x0, (.int .i64 i1), (.int .i64 j2), (.int .i64 c3)] 17) w = V_impl_Colouring_put x0 i1 j2 c3 w K := by
  kernel_rfl

theorem body_impl_Colouring_put : Try.f114.body = some (bodyOf Try.f114) := by kernel_rfl
theorem name_impl_Colouring_put : (Try.f114.name == "runtime.NumGoroutine") = false := by kernel_rfl

theorem walk_impl_Colouring_put (x0 : Value) (i1 : Int) (j2 : Int) (c3 : Int) {w : World} {K : Unit → World → Prop} (h : V_impl_Colouring_put x0 i1 j2 c3 w K) : Fc Try.prog 114 #[x0, (.int .i64 i1), (.int .i64 j2), (.int .i64 c3)] w .unit K :=
  fn_ok follows (sound_none _) Try.func114 name_impl_Colouring_put body_impl_Colouring_put Try.ntmps114 [x0, (.int .i64 i1), (.int .i64 j2), (.int .i64 c3)] (Eq.mpr (eq_impl_Colouring_put x0 i1 j2 c3 w K) h)

-- uses S5Made
theorem c_impl_Colouring_put {b : Nat} {n k : Int} {es : List Int} {i j c : Int} {w : World} {K : Unit → World → Prop} (h : BlkC w b ⟨n, k, es⟩) (hl : es.length = 136) (h0 : 0 ≤ i) (h1 : i < 17) (k0 : 0 ≤ j) (k1 : j < 17) (hne : i ≠ j) (c0 : 0 ≤ c) (c1 : c < 256)
    (hK : ∀ w', Mod [b] w w' → BlkC w' b ⟨n, k, es.set (num i j).toNat c⟩ → K () w') :
    Fc Try.prog F_impl_Colouring_put #[ptr b 0, .int .i64 i, .int .i64 j, .int .i64 c] w .unit K := by
  refine walk_impl_Colouring_put _ _ _ _ ?_
  intro w1 hd
  have hb := hd.below w.heap.size
  have hx : BlkC w1 b ⟨n, k, es⟩ := below_at hb h (at_lt h)
  have hn := num_lt h0 h1 k0 k1 (Int.le_refl _) hne
  rw [show edgesOf 17 = 136 from by decide] at hn
  refine int_u8 c0 c1 ⟨.inl ⟨_, rfl⟩, fldp f2 (c_impl_number h0 (by omega) k0 (by omega) (put_e hx hl hn.1 hn.2 fun w2 m hs hb2 => ?_))⟩
  exact hK w2 ((mod_of_below hb [b]).trans m) hb2

end Go.Proofs.Ytkadckhealbdaaa

/- The reading of impl_avoiding, and its contract. No condition. -/
namespace Go.Proofs.Ytkadckhealbdaaa
open Go Go.RowKit Eng Mem
set_option linter.unusedVariables false
set_option maxRecDepth 100000
def B_impl_avoiding_10 (x0 : Value) (sizes1 : Value) (i2 : Int) (j3 : Int) (with4 : Value) (c11 : Int) (x37 : Int) (x38 : Int) (x42 : Int) (near12 : Value) (x43 : Int) (N : (Value × Value × Int × Int × Value × Int × Int × Int × Int) → (Value × Int) → World → Prop) (D3 : (Value × Value × Int × Int × Value × Int × Value × Int × Int × Unit) → World → Prop) (w : World) : Prop :=
  (((decide (x43 < x42)) = true → (Fc Try.prog 129 #[x0, (.int .i64 x43), (.int .i64 i2), (.int .i64 c11)] w (.one .bool) fun (x50_12 : Bool) w_11 => ((x50_12 = true → (Fc Try.prog 129 #[x0, (.int .i64 x43), (.int .i64 j3), (.int .i64 c11)] w_11 (.one .bool) fun (x56_14 : Bool) w_13 => ((x56_14 = true → (Pr Try.prog (Instr.buildSlice 31 1 #[(0, (.int .i64 x43))]) w_13 (.one .any) fun (x60_16 : Value) w_15 => (Pr Try.prog (Builtin.append_ #[31, 31] 31 #[near12, x60_16]) w_15 (.one .any) fun (x61_18 : Value) w_17 => N ((x0 : Value), (sizes1 : Value), i2, j3, (with4 : Value), c11, x37, x38, x42) ((x61_18 : Value), (IntKind.i64.wrap (x43 + (1 : Int)))) w_17))) ∧ (x56_14 = false → N ((x0 : Value), (sizes1 : Value), i2, j3, (with4 : Value), c11, x37, x38, x42) ((near12 : Value), (IntKind.i64.wrap (x43 + (1 : Int)))) w_13)))) ∧ (x50_12 = false → N ((x0 : Value), (sizes1 : Value), i2, j3, (with4 : Value), c11, x37, x38, x42) ((near12 : Value), (IntKind.i64.wrap (x43 + (1 : Int)))) w_11)))) ∧ ((decide (x43 < x42)) = false → D3 ((x0 : Value), (sizes1 : Value), i2, j3, (with4 : Value), c11, (near12 : Value), x37, x38, ()) w))

abbrev L_impl_avoiding_10_e3 : List Slot := [.k .any, .k .any, .k (.int .i64), .k (.int .i64), .k .any, .junk, .junk, .junk, .junk, .junk, .junk, .k (.int .i64), .k .any, .junk, .junk, .junk, .junk, .junk, .junk, .junk, .junk, .junk, .junk, .junk, .junk, .junk, .junk, .junk, .junk, .junk, .junk, .junk, .junk, .junk, .junk, .junk, .junk, .k (.int .i64), .k (.int .i64), .junk, .junk, .junk, .junk, .junk, .junk, .junk, .junk, .junk, .junk, .junk, .junk, .junk, .junk, .junk, .junk, .junk, .junk, .junk, .junk, .junk, .junk, .junk, .junk, .junk, .junk, .junk, .junk, .junk, .junk, .junk, .junk, .junk, .junk, .junk, .junk, .junk, .junk, .junk, .junk, .junk, .junk, .junk, .junk, .junk, .junk, .junk, .junk, .junk, .junk, .junk]

abbrev L_impl_avoiding_10_sp : List Slot := [.k .any, .k .any, .k (.int .i64), .k (.int .i64), .k .any, .junk, .junk, .junk, .junk, .junk, .junk, .k (.int .i64), .k .any, .junk, .junk, .junk, .junk, .junk, .junk, .junk, .junk, .junk, .junk, .junk, .junk, .junk, .junk, .junk, .junk, .junk, .junk, .junk, .junk, .junk, .junk, .junk, .junk, .k (.int .i64), .k (.int .i64), .junk, .junk, .junk, .k (.int .i64), .k (.int .i64), .junk, .junk, .junk, .junk, .junk, .junk, .junk, .junk, .junk, .junk, .junk, .junk, .junk, .junk, .junk, .junk, .junk, .junk, .junk, .junk, .junk, .junk, .junk, .junk, .junk, .junk, .junk, .junk, .junk, .junk, .junk, .junk, .junk, .junk, .junk, .junk, .junk, .junk, .junk, .junk, .junk, .junk, .junk, .junk, .junk, .junk]
abbrev L_impl_avoiding_10_ex : List (Nat × List Slot) := [(3, L_impl_avoiding_10_e3)]
abbrev L_impl_avoiding_10_rt : List Slot := [.junk, .junk, .junk, .junk, .junk, .junk, .junk, .junk, .junk, .junk, .junk, .junk, .junk, .junk, .junk, .junk, .junk, .junk, .junk, .junk, .junk, .junk, .junk, .junk, .junk, .junk, .junk, .junk, .junk, .junk, .junk, .junk, .junk, .junk, .junk, .junk, .junk, .junk, .junk, .junk, .junk, .junk, .junk, .junk, .junk, .junk, .junk, .junk, .junk, .junk, .junk, .junk, .junk, .junk, .junk, .junk, .junk, .junk, .junk, .junk, .junk, .junk, .junk, .junk, .junk, .junk, .junk, .junk, .junk, .junk, .junk, .junk, .junk, .junk, .junk, .junk, .junk, .junk, .junk, .junk, .junk, .junk, .junk, .junk, .junk, .junk, .junk, .junk, .junk, .junk]

def L_impl_avoiding_10_b (Φ : Post) (u : (Value × Value × Int × Int × Value × Int × Int × Int × Int)) (N : (Value × Value × Int × Int × Value × Int × Int × Int × Int) → (Value × Int) → World → Prop) (s : (Value × Int)) (w : World) : Prop :=
  B_impl_avoiding_10 u.1 u.2.1 u.2.2.1 u.2.2.2.1 u.2.2.2.2.1 u.2.2.2.2.2.1 u.2.2.2.2.2.2.1 u.2.2.2.2.2.2.2.1 u.2.2.2.2.2.2.2.2 s.1 s.2 N (fun v w => ∀ j : Nat → Value, Φ (.exit 3) (mkT j 0 L_impl_avoiding_10_e3 v) w) w

theorem L_impl_avoiding_10_eq (j : Nat → Value) (u : (Value × Value × Int × Int × Value × Int × Int × Int × Int)) (s : (Value × Int)) (N : (Value × Value × Int × Int × Value × Int × Int × Int × Int) → (Value × Int) → World → Prop) (D3 : (Value × Value × Int × Int × Value × Int × Value × Int × Int × Unit) → World → Prop) (R : (Unit) → World → Prop) (w : World) :
    W Try.prog ty (fun _ _ _ _ => False) (loopAt Try.f109 10) (loopPost L_impl_avoiding_10_sp [(3, (⟨L_impl_avoiding_10_e3, D3⟩ : Door))] ⟨L_impl_avoiding_10_rt, R⟩ (fun v w => N ((fun v => (v.1, v.2.1, v.2.2.1, v.2.2.2.1, v.2.2.2.2.1, v.2.2.2.2.2.1, v.2.2.2.2.2.2.2.1, v.2.2.2.2.2.2.2.2.1, v.2.2.2.2.2.2.2.2.2.1)) v) ((fun v => (v.2.2.2.2.2.2.1, v.2.2.2.2.2.2.2.2.2.2.1)) v) w)) (mkT j 0 L_impl_avoiding_10_sp ((fun u s => (u.1, u.2.1, u.2.2.1, u.2.2.2.1, u.2.2.2.2.1, u.2.2.2.2.2.1, s.1, u.2.2.2.2.2.2.1, u.2.2.2.2.2.2.2.1, u.2.2.2.2.2.2.2.2, s.2, ())) u s)) w =
    B_impl_avoiding_10 u.1 u.2.1 u.2.2.1 u.2.2.2.1 u.2.2.2.2.1 u.2.2.2.2.2.1 u.2.2.2.2.2.2.1 u.2.2.2.2.2.2.2.1 u.2.2.2.2.2.2.2.2 s.1 s.2 N D3 w := by
  kernel_rfl

def O_impl_avoiding_1 : Code → Post → List SV → World → Prop :=
  orc 10 (loopAt Try.f109 10) L_impl_avoiding_10_sp (fun Φ fr w => LOOP (U := (Value × Value × Int × Int × Value × Int × Int × Int × Int)) (S := (Value × Int)) ((fun v => (v.1, v.2.1, v.2.2.1, v.2.2.2.1, v.2.2.2.2.1, v.2.2.2.2.2.1, v.2.2.2.2.2.2.2.1, v.2.2.2.2.2.2.2.2.1, v.2.2.2.2.2.2.2.2.2.1)) (extT L_impl_avoiding_10_sp fr)) (L_impl_avoiding_10_b Φ ((fun v => (v.1, v.2.1, v.2.2.1, v.2.2.2.1, v.2.2.2.2.1, v.2.2.2.2.2.1, v.2.2.2.2.2.2.2.1, v.2.2.2.2.2.2.2.2.1, v.2.2.2.2.2.2.2.2.2.1)) (extT L_impl_avoiding_10_sp fr))) ((fun v => (v.2.2.2.2.2.2.1, v.2.2.2.2.2.2.2.2.2.2.1)) (extT L_impl_avoiding_10_sp fr)) w) (fun _ _ _ _ => False)

theorem O_impl_avoiding_1_ok : Sound Try.prog O_impl_avoiding_1 :=
  orc_ok (sound_none _) fun Φ fr w hs h => loop_ok (ty := ty) follows (sound_none _) L_impl_avoiding_10_sp (fun v => (v.1, v.2.1, v.2.2.1, v.2.2.2.1, v.2.2.2.2.1, v.2.2.2.2.2.1, v.2.2.2.2.2.2.2.1, v.2.2.2.2.2.2.2.2.1, v.2.2.2.2.2.2.2.2.2.1)) (fun v => (v.2.2.2.2.2.2.1, v.2.2.2.2.2.2.2.2.2.2.1)) (fun u s => (u.1, u.2.1, u.2.2.1, u.2.2.2.1, u.2.2.2.2.1, u.2.2.2.2.2.1, s.1, u.2.2.2.2.2.2.1, u.2.2.2.2.2.2.2.1, u.2.2.2.2.2.2.2.2, s.2, ())) (fun _ => rfl) L_impl_avoiding_10_ex L_impl_avoiding_10_rt (body := L_impl_avoiding_10_b Φ) (fun j u s w N hb => by
    have e := L_impl_avoiding_10_eq j u s N (doorOf Φ (.exit 3) L_impl_avoiding_10_e3).D (doorOf Φ .ret L_impl_avoiding_10_rt).D w
    exact Eq.mpr e hb) hs h

def B_impl_avoiding_6 (x0 : Value) (sizes1 : Value) (i2 : Int) (j3 : Int) (with4 : Value) (x37 : Int) (x38 : Int) (N : (Value × Value × Int × Int × Value × Int) → Int → World → Prop) (D1 : (Value × Int × Int × Unit) → World → Prop) (R : (Bool × Unit) → World → Prop) (w : World) : Prop :=
  (((decide (x38 < x37)) = true → (Pr Try.prog (Instr.buildSlice 31 0 #[]) w (.one .any) fun (x41_10 : Value) w_9 => (At (loopAt Try.f109 10) (loopAt Try.f109 10) (LOOP (U := (Value × Value × Int × Int × Value × Int × Int × Int × Int)) (S := (Value × Int)) ((x0 : Value), (sizes1 : Value), i2, j3, (with4 : Value), x38, x37, x38, i2) (fun N_30 s_31 w_32 => B_impl_avoiding_10 (x0 : Value) (sizes1 : Value) i2 j3 (with4 : Value) x38 x37 x38 i2 s_31.1 s_31.2 N_30 (fun (v_19 : (Value × Value × Int × Int × Value × Int × Value × Int × Int × Unit)) w_20 => ∀ _j_21 : Nat → Value, (QAll Try.prog (Instr.indexAt 31 v_19.2.1 (.int .i64 v_19.2.2.2.2.2.1)) .any fun (x67_22 : Value) => (QSub Try.prog (Instr.loadAt 2 x67_22) w_20 (.int .i64) fun (x68_23 : Int) => (Fc Try.prog 130 #[v_19.1, (.int .i64 v_19.2.2.2.2.2.1), (.int .i64 (IntKind.i64.wrap (x68_23 - (2 : Int)))), v_19.2.2.2.2.2.2.1] w_20 (.one .bool) fun (x71_25 : Bool) w_24 => ((x71_25 = true → N ((v_19.1 : Value), (v_19.2.1 : Value), v_19.2.2.1, v_19.2.2.2.1, (v_19.2.2.2.2.1 : Value), v_19.2.2.2.2.2.2.2.1) (IntKind.i64.wrap (v_19.2.2.2.2.2.2.2.2.1 + (1 : Int))) w_24) ∧ (x71_25 = false → (Fc Try.prog 114 #[v_19.1, (.int .i64 v_19.2.2.1), (.int .i64 v_19.2.2.2.1), (.int .i64 v_19.2.2.2.2.2.1)] w_24 .unit fun (x76_27 : Unit) w_26 => (Fc Try.prog 109 #[v_19.1, v_19.2.1, (.int .i64 (IntKind.i64.wrap (v_19.2.2.1 + (1 : Int)))), (.int .i64 v_19.2.2.2.1), v_19.2.2.2.2.1] w_26 (.one .bool) fun (x83_29 : Bool) w_28 => (((!x83_29) = true → R (false, ()) w_28) ∧ ((!x83_29) = false → N ((v_19.1 : Value), (v_19.2.1 : Value), v_19.2.2.1, v_19.2.2.2.1, (v_19.2.2.2.2.1 : Value), v_19.2.2.2.2.2.2.2.1) (IntKind.i64.wrap (v_19.2.2.2.2.2.2.2.2.1 + (1 : Int))) w_28)))))))))) w_32) ((x41_10 : Value), (0 : Int)) w_9)))) ∧ ((decide (x38 < x37)) = false → D1 ((x0 : Value), i2, j3, ()) w))

abbrev L_impl_avoiding_6_e1 : List Slot := [.k .any, .junk, .k (.int .i64), .k (.int .i64), .junk, .junk, .junk, .junk, .junk, .junk, .junk, .junk, .junk, .junk, .junk, .junk, .junk, .junk, .junk, .junk, .junk, .junk, .junk, .junk, .junk, .junk, .junk, .junk, .junk, .junk, .junk, .junk, .junk, .junk, .junk, .junk, .junk, .junk, .junk, .junk, .junk, .junk, .junk, .junk, .junk, .junk, .junk, .junk, .junk, .junk, .junk, .junk, .junk, .junk, .junk, .junk, .junk, .junk, .junk, .junk, .junk, .junk, .junk, .junk, .junk, .junk, .junk, .junk, .junk, .junk, .junk, .junk, .junk, .junk, .junk, .junk, .junk, .junk, .junk, .junk, .junk, .junk, .junk, .junk, .junk, .junk, .junk, .junk, .junk, .junk]

abbrev L_impl_avoiding_6_sp : List Slot := [.k .any, .k .any, .k (.int .i64), .k (.int .i64), .k .any, .junk, .junk, .junk, .junk, .junk, .junk, .junk, .junk, .junk, .junk, .junk, .junk, .junk, .junk, .junk, .junk, .junk, .junk, .junk, .junk, .junk, .junk, .junk, .junk, .junk, .junk, .junk, .junk, .junk, .junk, .junk, .junk, .k (.int .i64), .k (.int .i64), .junk, .junk, .junk, .junk, .junk, .junk, .junk, .junk, .junk, .junk, .junk, .junk, .junk, .junk, .junk, .junk, .junk, .junk, .junk, .junk, .junk, .junk, .junk, .junk, .junk, .junk, .junk, .junk, .junk, .junk, .junk, .junk, .junk, .junk, .junk, .junk, .junk, .junk, .junk, .junk, .junk, .junk, .junk, .junk, .junk, .junk, .junk, .junk, .junk, .junk, .junk]
abbrev L_impl_avoiding_6_ex : List (Nat × List Slot) := [(1, L_impl_avoiding_6_e1)]
abbrev L_impl_avoiding_6_rt : List Slot := [.junk, .junk, .junk, .junk, .junk, .junk, .junk, .junk, .junk, .junk, .k .bool, .junk, .junk, .junk, .junk, .junk, .junk, .junk, .junk, .junk, .junk, .junk, .junk, .junk, .junk, .junk, .junk, .junk, .junk, .junk, .junk, .junk, .junk, .junk, .junk, .junk, .junk, .junk, .junk, .junk, .junk, .junk, .junk, .junk, .junk, .junk, .junk, .junk, .junk, .junk, .junk, .junk, .junk, .junk, .junk, .junk, .junk, .junk, .junk, .junk, .junk, .junk, .junk, .junk, .junk, .junk, .junk, .junk, .junk, .junk, .junk, .junk, .junk, .junk, .junk, .junk, .junk, .junk, .junk, .junk, .junk, .junk, .junk, .junk, .junk, .junk, .junk, .junk, .junk, .junk]

def L_impl_avoiding_6_b (Φ : Post) (u : (Value × Value × Int × Int × Value × Int)) (N : (Value × Value × Int × Int × Value × Int) → Int → World → Prop) (s : Int) (w : World) : Prop :=
  B_impl_avoiding_6 u.1 u.2.1 u.2.2.1 u.2.2.2.1 u.2.2.2.2.1 u.2.2.2.2.2 s N (fun v w => ∀ j : Nat → Value, Φ (.exit 1) (mkT j 0 L_impl_avoiding_6_e1 v) w) (fun v w => ∀ j : Nat → Value, Φ .ret (mkT j 0 L_impl_avoiding_6_rt v) w) w

theorem L_impl_avoiding_6_eq (j : Nat → Value) (u : (Value × Value × Int × Int × Value × Int)) (s : Int) (N : (Value × Value × Int × Int × Value × Int) → Int → World → Prop) (D1 : (Value × Int × Int × Unit) → World → Prop) (R : (Bool × Unit) → World → Prop) (w : World) :
    W Try.prog ty O_impl_avoiding_1 (loopAt Try.f109 6) (loopPost L_impl_avoiding_6_sp [(1, (⟨L_impl_avoiding_6_e1, D1⟩ : Door))] ⟨L_impl_avoiding_6_rt, R⟩ (fun v w => N ((fun v => (v.1, v.2.1, v.2.2.1, v.2.2.2.1, v.2.2.2.2.1, v.2.2.2.2.2.1)) v) ((fun v => v.2.2.2.2.2.2.1) v) w)) (mkT j 0 L_impl_avoiding_6_sp ((fun u s => (u.1, u.2.1, u.2.2.1, u.2.2.2.1, u.2.2.2.2.1, u.2.2.2.2.2, s, ())) u s)) w =
    B_impl_avoiding_6 u.1 u.2.1 u.2.2.1 u.2.2.2.1 u.2.2.2.2.1 u.2.2.2.2.2 s N D1 R w := by
  kernel_rfl

def O_impl_avoiding_2 : Code → Post → List SV → World → Prop :=
  orc 6 (loopAt Try.f109 6) L_impl_avoiding_6_sp (fun Φ fr w => LOOP (U := (Value × Value × Int × Int × Value × Int)) (S := Int) ((fun v => (v.1, v.2.1, v.2.2.1, v.2.2.2.1, v.2.2.2.2.1, v.2.2.2.2.2.1)) (extT L_impl_avoiding_6_sp fr)) (L_impl_avoiding_6_b Φ ((fun v => (v.1, v.2.1, v.2.2.1, v.2.2.2.1, v.2.2.2.2.1, v.2.2.2.2.2.1)) (extT L_impl_avoiding_6_sp fr))) ((fun v => v.2.2.2.2.2.2.1) (extT L_impl_avoiding_6_sp fr)) w) O_impl_avoiding_1

theorem O_impl_avoiding_2_ok : Sound Try.prog O_impl_avoiding_2 :=
  orc_ok O_impl_avoiding_1_ok fun Φ fr w hs h => loop_ok (ty := ty) follows O_impl_avoiding_1_ok L_impl_avoiding_6_sp (fun v => (v.1, v.2.1, v.2.2.1, v.2.2.2.1, v.2.2.2.2.1, v.2.2.2.2.2.1)) (fun v => v.2.2.2.2.2.2.1) (fun u s => (u.1, u.2.1, u.2.2.1, u.2.2.2.1, u.2.2.2.2.1, u.2.2.2.2.2, s, ())) (fun _ => rfl) L_impl_avoiding_6_ex L_impl_avoiding_6_rt (body := L_impl_avoiding_6_b Φ) (fun j u s w N hb => by
    have e := L_impl_avoiding_6_eq j u s N (doorOf Φ (.exit 1) L_impl_avoiding_6_e1).D (doorOf Φ .ret L_impl_avoiding_6_rt).D w
    exact Eq.mpr e hb) hs h

def V_impl_avoiding (x0 : Value) (sizes1 : Value) (i2 : Int) (j3 : Int) (with4 : Value) (w : World) (K : Bool → World → Prop) : Prop :=
  (NilOk x0 ∧ (QAll Try.prog (Instr.fieldAt 25 x0 0) .any fun (x18_1 : Value) => (QSub Try.prog (Instr.loadAt 2 x18_1) w (.int .i64) fun (x19_2 : Int) => (((decide (j3 ≥ x19_2)) = true → (callV Try.prog with4 #[x0] w (.one .bool) fun (x23_4 : Bool) w_3 => K x23_4 w_3)) ∧ ((decide (j3 ≥ x19_2)) = false → (((i2 == j3) = true → (Fc Try.prog 109 #[x0, sizes1, (.int .i64 (0 : Int)), (.int .i64 (IntKind.i64.wrap (j3 + (1 : Int)))), with4] w (.one .bool) fun (x33_6 : Bool) w_5 => K x33_6 w_5)) ∧ ((i2 == j3) = false → (NilOk x0 ∧ (QAll Try.prog (Instr.fieldAt 25 x0 1) .any fun (x36_7 : Value) => (QSub Try.prog (Instr.loadAt 2 x36_7) w (.int .i64) fun (x37_8 : Int) => (At (loopAt Try.f109 6) (loopAt Try.f109 6) (LOOP (U := (Value × Value × Int × Int × Value × Int)) (S := Int) ((x0 : Value), (sizes1 : Value), i2, j3, (with4 : Value), x37_8) (fun N_41 s_42 w_43 => B_impl_avoiding_6 (x0 : Value) (sizes1 : Value) i2 j3 (with4 : Value) x37_8 s_42 N_41 (fun (v_33 : (Value × Int × Int × Unit)) w_34 => ∀ _j_35 : Nat → Value, (Fc Try.prog 114 #[v_33.1, (.int .i64 v_33.2.1), (.int .i64 v_33.2.2.1), (.int .i64 (0 : Int))] w_34 .unit fun (x89_37 : Unit) w_36 => K true w_36)) (fun (v_38 : (Bool × Unit)) w_39 => ∀ _j_40 : Nat → Value, K v_38.1 w_39) w_43) (0 : Int) w))))))))))))

theorem eq_impl_avoiding (x0 : Value) (sizes1 : Value) (i2 : Int) (j3 : Int) (with4 : Value) (w : World) (K : Bool → World → Prop) :
    W Try.prog ty O_impl_avoiding_2 (bodyOf Try.f109) (fnPost Try.prog Try.f109.results.toList (.one .bool) K) (frame0 [x0, sizes1, (.int .i64 i2), (.int .i64 j3), with4] 90) w = V_impl_avoiding x0 sizes1 i2 j3 with4 w K := by
  kernel_rfl

theorem body_impl_avoiding : Try.f109.body = some (bodyOf Try.f109) := by kernel_rfl
theorem name_impl_avoiding : (Try.f109.name == "runtime.NumGoroutine") = false := by kernel_rfl

theorem walk_impl_avoiding (x0 : Value) (sizes1 : Value) (i2 : Int) (j3 : Int) (with4 : Value) {w : World} {K : Bool → World → Prop} (h : V_impl_avoiding x0 sizes1 i2 j3 with4 w K) : Fc Try.prog 109 #[x0, sizes1, (.int .i64 i2), (.int .i64 j3), with4] w (.one .bool) K :=
  fn_ok follows O_impl_avoiding_2_ok Try.func109 name_impl_avoiding body_impl_avoiding Try.ntmps109 [x0, sizes1, (.int .i64 i2), (.int .i64 j3), with4] (Eq.mpr (eq_impl_avoiding x0 sizes1 i2 j3 with4 w K) h)

-- uses S9AvoM
theorem c_impl_avoiding {b : Nat} {f a : Value} {n k : Int} {l : List Int} (r : Bool) (J : List (List Int) → World → Prop) (M : Nat) (n0 : 1 ≤ n) (n17 : n ≤ 17) (hkl : k = l.length) (k0 : 1 ≤ k) (k4 : k ≤ 4) (hl : AllIn l 1 17)
    (hJ : ∀ d w, J d w → SlI w a l) (hst : ∀ d w w', J d w → Mod [b] w w' → J d w')
    (hcall : ∀ (d : List (List Int)) (es : List Int) (w' : World) (K' : Bool → World → Prop), es.length = (edgesOf n).toNat → (∀ e ∈ es, 0 ≤ e ∧ e < k) → d.length < M → J d w' → BlkC w' b (colE n k es) → (∀ w'', J (d ++ [es]) w'' → BlkC w'' b (colE n k es) → K' r w'') → callV Try.prog f #[ptr b 0] w' (.one .bool) K') :
    ∀ (g : Nat) (i j : Int) (es : List Int) (d : List (List Int)) (w : World) (K : Bool → World → Prop), 2 * ((edgesOf n).toNat - es.length) + (if i = j then 1 else 0) < g → 0 ≤ i → i ≤ j → 1 ≤ j → j ≤ n → (j = n → i = 0) → (es.length : Int) = edgesOf j + i → (∀ e ∈ es, 0 ≤ e ∧ e < k) →
      d.length + (extE l l.length ((edgesOf n).toNat - es.length) es).length ≤ M → J d w → BlkC w b (colE n k es) →
      (∀ w', J (d ++ vis r (extE l l.length ((edgesOf n).toNat - es.length) es)) w' → (resV r (extE l l.length ((edgesOf n).toNat - es.length) es) = true → BlkC w' b (colE n k es)) → K (resV r (extE l l.length ((edgesOf n).toNat - es.length) es)) w') →
      Fc Try.prog F_impl_avoiding #[ptr b 0, a, .int .i64 i, .int .i64 j, f] w (.one .bool) K
  | 0, _, _, _, _, _, _, h, _, _, _, _, _, _, _, _, _, _, _ => by omega
  | g + 1, i, j, es, d, w, K, hg, i0, ij, j0, jn, hjn, hlen, hes, hM, hj, hb, hK => by
    have nn : NilOk (ptr b 0) := .inl ⟨_, rfl⟩
    have hedn := edges_bd (n := n) (by omega) n17
    have hedj := edgesOf_mono (j := 0) (n := j) (by omega) (by omega)
    rw [show edgesOf 0 = 0 from by decide] at hedj
    have cn : ∀ {w' : World} {es' : List Int}, BlkC w' b (colE n k es') → ColAt w' (ptr b 0) (colE n k es') := fun h => blk_row h
    refine walk_impl_avoiding _ _ _ _ _ ⟨nn, col_n (cn hb) ⟨fun hge => ?_, fun hlt => ⟨fun he => ?_, fun hne => ⟨nn, col_k (cn hb) ?_⟩⟩⟩⟩
    · have hge : j ≥ n := dec_t hge
      have hjn' : j = n := by omega
      have hi := hjn hjn'
      have hfull : es.length = (edgesOf n).toNat := by rw [← hjn']; omega
      have e1 : extE l l.length ((edgesOf n).toNat - es.length) es = [es] := by rw [show (edgesOf n).toNat - es.length = 0 from by omega]; rfl
      rw [e1] at hM hK
      have hv : vis r [es] = [es] := by unfold vis; split <;> rfl
      have hr : resV r [es] = r := by unfold resV; simp
      rw [hv, hr] at hK
      exact hcall d es w _ hfull hes (by have := hM; simp at this; omega) hj hb fun w'' h1 h2 => hK w'' h1 fun _ => h2
    · have hlt : ¬ j ≥ n := dec_f hlt
      have he := eq_t he
      subst he
      rw [wrap_small (by omega) (by omega)]
      refine c_impl_avoiding r J M n0 n17 hkl k0 k4 hl hJ hst hcall g 0 (i + 1) es d w K ?_ (by omega) (by omega) (by omega) (by omega) (fun _ => rfl) (by rw [edgesOf_succ]; omega) hes hM hj hb hK
      rw [if_pos rfl] at hg
      rw [if_neg (by omega)]
      omega
    have hlt : ¬ j ≥ n := dec_f hlt
    have hne := eq_f hne
    have hij : i < j := by omega
    rw [if_neg hne] at hg
    have hj1 := edgesOf_mono (j := j + 1) (n := n) (by omega) (by omega)
    rw [edgesOf_succ] at hj1
    obtain ⟨fu, hfu⟩ : ∃ fu, (edgesOf n).toNat - es.length = fu + 1 := ⟨(edgesOf n).toNat - es.length - 1, by omega⟩
    rw [hfu, extE_succ] at hM hK
    have hpair := pair_enum i0 hij (by omega)
    have hen : (enum i j).toNat = es.length := by rw [enum_eq]; omega
    rw [hen] at hpair
    have hstep : ∀ c : Nat, c < l.length → extR l l.length fu es c = (if okE l es i j c then extE l l.length fu (es ++ [(c : Int)]) else []) ++ extR l l.length fu es (c + 1) := fun c hc => by
      rw [extR_step l l.length fu es hc, hpair.1, hpair.2]
    have hes256 : ∀ e ∈ es, 0 ≤ e ∧ e < 256 := fun e he => by have := hes e he; omega
    have hb0 : BlkC w b (colE n k (es ++ [0])) := by unfold colE; rw [padE_zero (by omega)]; exact hb
    refine lp (fun s w' => ∃ (c : Nat) (y : Int) (A : List (List Int)), s = c ∧ c ≤ l.length ∧ (0 ≤ y ∧ y < 256) ∧ J (d ++ A) w' ∧ BlkC w' b (colE n k (es ++ [y])) ∧ (r = true → A ++ extR l l.length fu es c = extR l l.length fu es 0) ∧ (r = false → A = [] ∧ extR l l.length fu es c = extR l l.length fu es 0)) (fun s _ => (l.length - s).toNat)
      ⟨0, 0, [], rfl, by omega, by omega, by rw [List.append_nil]; exact hj, hb0, fun _ => rfl, fun _ => ⟨rfl, rfl⟩⟩ ?_
    rintro t w2 N ⟨c, y, A, hc, hcl, hy, hj2, hb2, hT, hF⟩ hN
    subst hc
    unfold B_impl_avoiding_6
    refine ⟨fun hltc => nilI fun b1 v1 w3 e1 q3 o3 => ?_, fun hgec => ?_⟩
    · have hltc : (c : Int) < k := dec_t hltc
      have hok := colE_val_ok (n := n) (k := k) (y := y) (es := es) ⟨by omega, by omega⟩ ⟨by omega, by omega⟩ (by omega) hes256 hy
      refine lp (fun s w' => Below w2.heap.size w2 w' ∧ ∃ (p b' : Nat), s.2 = p ∧ p ≤ i.toNat ∧ w2.heap.size ≤ b' ∧ OwnI w' b' s.1 (sel (fun p => joinB (colE n k (es ++ [y])) p i c && joinB (colE n k (es ++ [y])) p j c) p)) (fun s _ => (17 - s.2).toNat) ⟨q3, 0, b1, rfl, by omega, by omega, o3⟩ ?_
      rintro ⟨u, t⟩ w4 N' ⟨q4, p, b', hp, hpi, hb', ho⟩ hN'
      simp only at hp ho
      subst hp
      unfold B_impl_avoiding_10
      dsimp only
      have hb4 : BlkC w4 b (colE n k (es ++ [y])) := below_at q4 hb2 (at_lt hb2)
      have hsl := sel_len_le (fun p => joinB (colE n k (es ++ [y])) p i c && joinB (colE n k (es ++ [y])) p j c) p
      have hss := sel_succ (fun p => joinB (colE n k (es ++ [y])) p i c && joinB (colE n k (es ++ [y])) p j c) p
      refine ⟨fun hlt2 => ?_, fun hge2 => ?_⟩
      · have hlt2 := dec_t hlt2
        have skip : ∀ w', Below w2.heap.size w2 w' → OwnI w' b' u (sel (fun p => joinB (colE n k (es ++ [y])) p i c && joinB (colE n k (es ++ [y])) p j c) p) → (joinB (colE n k (es ++ [y])) p i c && joinB (colE n k (es ++ [y])) p j c) = false → N' (ptr b 0, a, i, j, f, (c : Int), k, (c : Int), i) (u, IntKind.i64.wrap ((p : Int) + 1)) w' := fun w' q o hno => by
          rw [wrap_small (by omega) (by omega)]
          refine hN' _ _ ⟨q, p + 1, b', by simp only; omega, by omega, hb', ?_⟩ (by simp only; omega)
          rw [hss, if_neg (by rw [hno]; simp), List.append_nil]
          exact o
        refine c_impl_Colouring_joins hok (cn hb4) (by omega) (by omega) i0 (by omega) fun w5 q5 => ⟨fun hy1 => ?_, fun hn1 => skip w5 (q4.trans (q5.mono q4.size)) (ho.keep q5) (by rw [hn1]; rfl)⟩
        have q25 := q4.trans (q5.mono q4.size)
        have hb5 : BlkC w5 b (colE n k (es ++ [y])) := below_at q5 hb4 (at_lt hb4)
        refine c_impl_Colouring_joins hok (cn hb5) (by omega) (by omega) (by omega) (by omega) fun w6 q6 => ⟨fun hy2 => ?_, fun hn2 => skip w6 (q25.trans (q6.mono q25.size)) ((ho.keep q5).keep q6) (by rw [hn2, Bool.and_false])⟩
        have q26 := q25.trans (q6.mono q25.size)
        have hs6 := q26.size
        refine appI ((ho.keep q5).keep q6) (by omega) fun u' w7 b7 o7 m7 hb7 => ?_
        rw [wrap_small (by omega) (by omega)]
        refine hN' _ _ ⟨q26.trans (m7.below (by omega) (by simp; omega)), p + 1, b7, by simp only; omega, by omega, by omega, ?_⟩ (by simp only; omega)
        rw [hss, if_pos (by rw [hy1, hy2]; rfl)]
        exact o7
      · have hge2 := dec_f hge2
        have : p = i.toNat := by omega
        subst this
        intro _
        try dsimp only
        have j4 := hst _ _ _ hj2 (mod_of_below q4 _)
        have hclN : c < l.length := by omega
        have hlc := hl.get (i := c) hclN
        refine atI (hJ _ _ j4) (by omega) (by omega) ?_
        rw [Int.toNat_natCast, wrap_small (n := l.getD c 0 - 2) (by omega) (by omega)]
        refine c_impl_Colouring_hasClique hok _ (l.getD c 0 - 2) _ u w4 _ rfl (by omega) (by omega) (cn hb4) (own_slI ho (by omega)) (by omega) (fun q hq => ?_) fun w5 q5 => ?_
        · unfold sel at hq
          obtain ⟨z, hz, rfl⟩ := List.mem_map.1 hq
          have := (List.mem_filter.1 hz).1
          simp at this
          omega
        have hokk := ok_of (n := n) (k := k) (c := (c : Int)) (y := y) (l := l) i0 hij (by omega) hlen
        rw [Int.toNat_natCast] at hokk
        rw [hokk]
        have q25 := q4.trans (q5.mono q4.size)
        have j5 := hst _ _ _ hj2 (mod_of_below q25 _)
        have hb5 : BlkC w5 b (colE n k (es ++ [y])) := below_at q25 hb2 (at_lt hb2)
        have hsc := hstep c hclN
        refine ⟨fun hno => ?_, fun hyes => ?_⟩
        · have hno := not_t hno
          rw [hno] at hsc
          simp only [Bool.false_eq_true, if_false, List.nil_append] at hsc
          rw [wrap_small (by omega) (by omega)]
          exact hN _ _ ⟨c + 1, y, A, by omega, by omega, hy, j5, hb5, fun h => by rw [← hsc]; exact hT h, fun h => by rw [← hsc]; exact hF h⟩ (by omega)
        have hyes := not_f hyes
        rw [hyes] at hsc
        simp only [if_true] at hsc
        have hnum : num i j = enum i j := num_of hij
        refine c_impl_Colouring_put (n := n) (k := k) (es := padE (es ++ [y])) hb5 (padE_len (by simp; omega)) i0 (by omega) (by omega) (by omega) (by omega) (by omega) (by omega) fun w6 m6 h6 => ?_
        rw [hnum, hen, padE_back (by omega)] at h6
        have h6 : BlkC w6 b (colE n k (es ++ [(c : Int)])) := h6
        have j6 := hst _ _ _ j5 m6
        obtain ⟨X, hX⟩ : ∃ X, extE l l.length fu (es ++ [(c : Int)]) = X := ⟨_, rfl⟩
        rw [hX] at hsc
        have hlen2 : (edgesOf n).toNat - (es ++ [(c : Int)]).length = fu := by simp; omega
        have hrec := c_impl_avoiding r J M n0 n17 hkl k0 k4 hl hJ hst hcall g (i + 1) j (es ++ [(c : Int)]) (d ++ A) w6
        rw [hlen2, hX] at hrec
        rw [wrap_small (n := i + 1) (by omega) (by omega)]
        refine hrec _ (by split <;> omega) (by omega) (by omega) j0 jn (fun h => by omega) (by simp; omega) (fun e he => by
          rcases List.mem_append.1 he with he | he
          · exact hes e he
          · simp at he; omega) ?_ j6 h6 fun w7 j7 hb7 => ⟨fun hr => ?_, fun hr => ?_⟩
        · cases hr : r with
          | true =>
            have := congrArg List.length (hT hr)
            rw [hsc] at this
            simp at this ⊢
            omega
          | false =>
            have h2 := hF hr
            have := congrArg List.length h2.2
            rw [hsc] at this
            rw [h2.1]
            simp at this ⊢
            omega
        · have hr := not_t hr
          unfold resV at hr
          rw [Bool.or_eq_false_iff] at hr
          have h2 := hF hr.1
          intro _
          have hXne : X ≠ [] := by intro h; rw [h] at hr; simp at hr
          have := hK w7
          rw [← h2.2, hsc] at this
          have hres : resV r (X ++ extR l l.length fu es (c + 1)) = false := by
            unfold resV
            rw [hr.1, Bool.false_or]
            cases X with
            | nil => exact absurd rfl hXne
            | cons _ _ => rfl
          have hvis : vis r (X ++ extR l l.length fu es (c + 1)) = vis r X := by
            unfold vis
            rw [hr.1]
            cases X with
            | nil => exact absurd rfl hXne
            | cons _ _ => simp
          rw [hres, hvis] at this
          rw [h2.1, List.append_nil] at j7
          exact this j7 fun h => by cases h
        · have hr := not_f hr
          rw [wrap_small (by omega) (by omega)]
          refine hN _ _ ⟨c + 1, c, A ++ vis r X, by omega, by omega, by omega, by rw [← List.append_assoc]; exact j7, hb7 hr, fun h => ?_, fun h => ?_⟩ (by omega)
          · have hv : vis r X = X := by unfold vis; rw [h]; rfl
            rw [hv, List.append_assoc, ← hsc]
            exact hT h
          · unfold resV at hr
            rw [h, Bool.false_or] at hr
            have hX0 : X = [] := by simpa using hr
            have h2 := hF h
            rw [hX0, List.nil_append] at hsc
            rw [hX0, ← hsc, h2.1]
            exact ⟨by unfold vis; split <;> rfl, h2.2⟩
    · have hgec : ¬ (c : Int) < k := dec_f hgec
      have : c = l.length := by omega
      subst this
      intro _
      have hend := extR_end l l.length fu es
      rw [hend] at hT hF
      try dsimp only
      refine c_impl_Colouring_put (n := n) (k := k) (es := padE (es ++ [y])) hb2 (padE_len (by simp; omega)) i0 (by omega) (by omega) (by omega) (by omega) (by omega) (by omega) fun w6 m6 h6 => ?_
      rw [num_of hij, hen, padE_back (by omega), padE_zero (by omega)] at h6
      have h6 : BlkC w6 b (colE n k es) := h6
      have j6 := hst _ _ _ hj2 m6
      have := hK w6
      cases hr : r with
      | true =>
        have h1 := hT hr
        rw [List.append_nil] at h1
        rw [← h1] at this
        have hv : vis r A = A := by unfold vis; rw [hr]; rfl
        have hres : resV r A = true := by unfold resV; rw [hr]; rfl
        rw [hv, hres] at this
        exact this j6 fun _ => h6
      | false =>
        have h1 := hF hr
        rw [← h1.2] at this
        have hv : vis r [] = [] := by unfold vis; split <;> rfl
        have hres : resV r [] = true := by unfold resV; simp
        rw [hv, hres] at this
        rw [h1.1] at j6
        exact this j6 fun _ => h6

end Go.Proofs.Ytkadckhealbdaaa

/- The reading of slices_Min_int64_int64, and its contract. No condition. -/
namespace Go.Proofs.Ytkadckhealbdaaa
open Go Go.RowKit Eng Mem
set_option linter.unusedVariables false
set_option maxRecDepth 100000
def B_slices_Min_int64_int64_5 (x0 : Value) (m3 : Int) (i4 : Int) (N : Value → (Int × Int) → World → Prop) (D0 : (Int × Unit) → World → Prop) (w : World) : Prop :=
  (QAll Try.prog (Builtin.len_ #[31] 3 #[x0]) (.int .i64) fun (x14_4 : Int) => (((decide (i4 < x14_4)) = true → (QAll Try.prog (Instr.indexAt 31 x0 (.int .i64 i4)) .any fun (x21_5 : Value) => (QSub Try.prog (Instr.loadAt 2 x21_5) w (.int .i64) fun (x22_6 : Int) => (QAll Try.prog (Builtin.min_ #[2, 2] 2 #[(.int .i64 m3), (.int .i64 x22_6)]) (.int .i64) fun (x23_7 : Int) => N (x0 : Value) (x23_7, (IntKind.i64.wrap (i4 + (1 : Int)))) w)))) ∧ ((decide (i4 < x14_4)) = false → D0 (m3, ()) w)))

abbrev L_slices_Min_int64_int64_5_e0 : List Slot := [.junk, .junk, .junk, .k (.int .i64), .junk, .junk, .junk, .junk, .junk, .junk, .junk, .junk, .junk, .junk, .junk, .junk, .junk, .junk, .junk, .junk, .junk, .junk, .junk, .junk, .junk]

abbrev L_slices_Min_int64_int64_5_sp : List Slot := [.k .any, .junk, .junk, .k (.int .i64), .k (.int .i64), .junk, .junk, .junk, .junk, .junk, .junk, .junk, .junk, .junk, .junk, .junk, .junk, .junk, .junk, .junk, .junk, .junk, .junk, .junk, .junk]
abbrev L_slices_Min_int64_int64_5_ex : List (Nat × List Slot) := [(0, L_slices_Min_int64_int64_5_e0)]
abbrev L_slices_Min_int64_int64_5_rt : List Slot := [.junk, .junk, .junk, .junk, .junk, .junk, .junk, .junk, .junk, .junk, .junk, .junk, .junk, .junk, .junk, .junk, .junk, .junk, .junk, .junk, .junk, .junk, .junk, .junk, .junk]

def L_slices_Min_int64_int64_5_b (Φ : Post) (u : Value) (N : Value → (Int × Int) → World → Prop) (s : (Int × Int)) (w : World) : Prop :=
  B_slices_Min_int64_int64_5 u s.1 s.2 N (fun v w => ∀ j : Nat → Value, Φ (.exit 0) (mkT j 0 L_slices_Min_int64_int64_5_e0 v) w) w

theorem L_slices_Min_int64_int64_5_eq (j : Nat → Value) (u : Value) (s : (Int × Int)) (N : Value → (Int × Int) → World → Prop) (D0 : (Int × Unit) → World → Prop) (R : (Unit) → World → Prop) (w : World) :
    W Try.prog ty (fun _ _ _ _ => False) (loopAt Try.f108 5) (loopPost L_slices_Min_int64_int64_5_sp [(0, (⟨L_slices_Min_int64_int64_5_e0, D0⟩ : Door))] ⟨L_slices_Min_int64_int64_5_rt, R⟩ (fun v w => N ((fun v => v.1) v) ((fun v => (v.2.1, v.2.2.1)) v) w)) (mkT j 0 L_slices_Min_int64_int64_5_sp ((fun u s => (u, s.1, s.2, ())) u s)) w =
    B_slices_Min_int64_int64_5 u s.1 s.2 N D0 w := by
  kernel_rfl

def O_slices_Min_int64_int64_1 : Code → Post → List SV → World → Prop :=
  orc 5 (loopAt Try.f108 5) L_slices_Min_int64_int64_5_sp (fun Φ fr w => LOOP (U := Value) (S := (Int × Int)) ((fun v => v.1) (extT L_slices_Min_int64_int64_5_sp fr)) (L_slices_Min_int64_int64_5_b Φ ((fun v => v.1) (extT L_slices_Min_int64_int64_5_sp fr))) ((fun v => (v.2.1, v.2.2.1)) (extT L_slices_Min_int64_int64_5_sp fr)) w) (fun _ _ _ _ => False)

theorem O_slices_Min_int64_int64_1_ok : Sound Try.prog O_slices_Min_int64_int64_1 :=
  orc_ok (sound_none _) fun Φ fr w hs h => loop_ok (ty := ty) follows (sound_none _) L_slices_Min_int64_int64_5_sp (fun v => v.1) (fun v => (v.2.1, v.2.2.1)) (fun u s => (u, s.1, s.2, ())) (fun _ => rfl) L_slices_Min_int64_int64_5_ex L_slices_Min_int64_int64_5_rt (body := L_slices_Min_int64_int64_5_b Φ) (fun j u s w N hb => by
    have e := L_slices_Min_int64_int64_5_eq j u s N (doorOf Φ (.exit 0) L_slices_Min_int64_int64_5_e0).D (doorOf Φ .ret L_slices_Min_int64_int64_5_rt).D w
    exact Eq.mpr e hb) hs h

def V_slices_Min_int64_int64 (x0 : Value) (w : World) (K : Int → World → Prop) : Prop :=
  (QAll Try.prog (Builtin.len_ #[31] 3 #[x0]) (.int .i64) fun (x6_1 : Int) => (((decide (x6_1 < (1 : Int))) = true → False) ∧ ((decide (x6_1 < (1 : Int))) = false → (QAll Try.prog (Instr.indexAt 31 x0 (.int .i64 (0 : Int))) .any fun (x10_2 : Value) => (QSub Try.prog (Instr.loadAt 2 x10_2) w (.int .i64) fun (x11_3 : Int) => (At (loopAt Try.f108 5) (loopAt Try.f108 5) (LOOP (U := Value) (S := (Int × Int)) (x0 : Value) (fun N_11 s_12 w_13 => B_slices_Min_int64_int64_5 (x0 : Value) s_12.1 s_12.2 N_11 (fun (v_8 : (Int × Unit)) w_9 => ∀ _j_10 : Nat → Value, K v_8.1 w_9) w_13) (x11_3, (1 : Int)) w)))))))

theorem eq_slices_Min_int64_int64 (x0 : Value) (w : World) (K : Int → World → Prop) :
    W Try.prog ty O_slices_Min_int64_int64_1 (bodyOf Try.f108) (fnPost Try.prog Try.f108.results.toList (.one (.int .i64)) K) (frame0 [x0] 25) w = V_slices_Min_int64_int64 x0 w K := by
  kernel_rfl

theorem body_slices_Min_int64_int64 : Try.f108.body = some (bodyOf Try.f108) := by kernel_rfl
theorem name_slices_Min_int64_int64 : (Try.f108.name == "runtime.NumGoroutine") = false := by kernel_rfl

theorem walk_slices_Min_int64_int64 (x0 : Value) {w : World} {K : Int → World → Prop} (h : V_slices_Min_int64_int64 x0 w K) : Fc Try.prog 108 #[x0] w (.one (.int .i64)) K :=
  fn_ok follows O_slices_Min_int64_int64_1_ok Try.func108 name_slices_Min_int64_int64 body_slices_Min_int64_int64 Try.ntmps108 [x0] (Eq.mpr (eq_slices_Min_int64_int64 x0 w K) h)

-- uses S2Sl
theorem c_slices_Min_int64_int64 {a : Value} {l : List Int} {w : World} {K : Int → World → Prop} (ha : SlI w a l) (hl : l ≠ []) (hK : ∀ m, m ∈ l → (∀ x ∈ l, m ≤ x) → K m w) : Fc Try.prog F_slices_Min_int64_int64 #[a] w (.one (.int .i64)) K := by
  have hpos : 0 < l.length := List.length_pos_iff.2 hl
  have hll := ha.len
  refine walk_slices_Min_int64_int64 _ (lenI ha ⟨fun h => absurd (dec_t h) (by omega), fun _ => atI ha (by omega) (by omega) ?_⟩)
  have mem : ∀ i : Nat, i < l.length → l.getD i 0 ∈ l := fun i hi => by
    have e : l.getD i 0 = l[i] := by simp [List.getD, hi]
    rw [e]; exact List.getElem_mem hi
  have base : ∀ j : Nat, j < 1 → l.getD 0 0 ≤ l.getD j 0 := fun j hj => by
    have : j = 0 := by omega
    rw [this]
    exact Int.le_refl _
  refine lp (fun (s : Int × Int) w' => w' = w ∧ ∃ k : Nat, s.2 = k ∧ 1 ≤ k ∧ k ≤ l.length ∧ s.1 ∈ l ∧ ∀ j : Nat, j < k → s.1 ≤ l.getD j 0) (fun s _ => (l.length - s.2).toNat) ⟨rfl, 1, rfl, by omega, by omega, mem 0 hpos, base⟩ ?_
  rintro ⟨m, t⟩ w2 N ⟨rfl, k, hk, hk1, hkl, hm, hall⟩ hN
  simp only at hk hm hall
  subst hk
  unfold B_slices_Min_int64_int64_5
  dsimp only
  refine lenI ha ⟨fun hlt => ?_, fun hge => ?_⟩
  · have hlt := dec_t hlt
    refine atI ha (by omega) hlt (mn ?_)
    rw [Int.toNat_natCast, wrap_small (by omega) (by omega)]
    have hmk := mem k (by omega)
    refine hN _ _ ⟨rfl, k + 1, by simp only; omega, by omega, by omega, ?_, fun j hj => ?_⟩ (by simp only; omega)
    · simp only; split
      · exact hmk
      · exact hm
    · simp only
      by_cases hjk : j < k
      · have := hall j hjk
        split <;> omega
      · have : j = k := by omega
        subst this
        split <;> omega
  · have hge := dec_f hge
    intro _
    refine hK m hm fun x hx => ?_
    obtain ⟨j, hj, rfl⟩ := List.mem_iff_getElem.1 hx
    have := hall j (by omega)
    simpa [List.getD, hj] using this

end Go.Proofs.Ytkadckhealbdaaa

/- The reading of impl_allAvoiding, and its contract. No condition. -/
namespace Go.Proofs.Ytkadckhealbdaaa
open Go Go.RowKit Eng Mem
set_option linter.unusedVariables false
set_option maxRecDepth 100000
def V_impl_allAvoiding (n0 : Int) (sizes1 : Value) (with2 : Value) (w : World) (K : Bool → World → Prop) : Prop :=
  (Fc Try.prog 58 #[sizes1] w (.one (.int .i64)) fun (x10_2 : Int) w_1 => (Pr Try.prog (Instr.build 25 #[(0, (.int .i64 n0)), (1, (.int .i64 x10_2))]) w_1 (.one .any) fun (x11_4 : Value) w_3 => (Pr Try.prog (Instr.box 25 x11_4) w_3 (.one .any) fun (x12_6 : Value) w_5 => (Fc Try.prog 108 #[sizes1] w_5 (.one (.int .i64)) fun (x14_8 : Int) w_7 => (((x14_8 == (1 : Int)) = true → K true w_7) ∧ ((x14_8 == (1 : Int)) = false → (Fc Try.prog 109 #[x12_6, sizes1, (.int .i64 (0 : Int)), (.int .i64 (1 : Int)), with2] w_7 (.one .bool) fun (x20_10 : Bool) w_9 => K x20_10 w_9)))))))

theorem eq_impl_allAvoiding (n0 : Int) (sizes1 : Value) (with2 : Value) (w : World) (K : Bool → World → Prop) :
    W Try.prog ty (fun _ _ _ _ => False) (bodyOf Try.f79) (fnPost Try.prog Try.f79.results.toList (.one .bool) K) (frame0 [(.int .i64 n0), sizes1, with2] 22) w = V_impl_allAvoiding n0 sizes1 with2 w K := by
  kernel_rfl

theorem body_impl_allAvoiding : Try.f79.body = some (bodyOf Try.f79) := by kernel_rfl
theorem name_impl_allAvoiding : (Try.f79.name == "runtime.NumGoroutine") = false := by kernel_rfl

theorem walk_impl_allAvoiding (n0 : Int) (sizes1 : Value) (with2 : Value) {w : World} {K : Bool → World → Prop} (h : V_impl_allAvoiding n0 sizes1 with2 w K) : Fc Try.prog 79 #[(.int .i64 n0), sizes1, with2] w (.one .bool) K :=
  fn_ok follows (sound_none _) Try.func79 name_impl_allAvoiding body_impl_allAvoiding Try.ntmps79 [(.int .i64 n0), sizes1, with2] (Eq.mpr (eq_impl_allAvoiding n0 sizes1 with2 w K) h)

-- uses S9AvoM
theorem c_impl_allAvoiding {f a : Value} {n : Int} {l : List Int} {w : World} {K : Bool → World → Prop} (r : Bool) (J : List (List Int) → World → Prop) (M : Nat) (n0 : 1 ≤ n) (n17 : n ≤ 17) (k0 : 1 ≤ l.length) (k4 : l.length ≤ 4) (hl : AllIn l 1 17) (ha : SlI w a l)
    (hM : (extE l l.length (edgesOf n).toNat []).length ≤ M)
    (hJ : ∀ d w, J d w → SlI w a l) (hst : ∀ d w1 w2 b, J d w1 → w.heap.size ≤ b → Mod [b] w1 w2 → J d w2) (hj : J [] w)
    (hcall : ∀ (b : Nat) (d : List (List Int)) (es : List Int) (w' : World) (K' : Bool → World → Prop), w.heap.size ≤ b → es.length = (edgesOf n).toNat → (∀ e ∈ es, 0 ≤ e ∧ e < l.length) → d.length < M → J d w' → BlkC w' b (colE n l.length es) → (∀ w'', J (d ++ [es]) w'' → BlkC w'' b (colE n l.length es) → K' r w'') → callV Try.prog f #[ptr b 0] w' (.one .bool) K')
    (hK : ∀ w', J (vis r (allE n l)) w' → K (resV r (allE n l)) w') : Fc Try.prog F_impl_allAvoiding #[.int .i64 n, a, f] w (.one .bool) K := by
  unfold allE at hK
  refine walk_impl_allAvoiding _ _ _ (c_impl_sizeS ha (build2 (box (⟨n, l.length, List.replicate 136 0⟩ : Col).cells rfl fun b w1 m1 => ?_)))
  have e1 := m1.here
  have j1 := hst _ _ w1 b hj (by omega) (m1.mod.mono (by simp))
  have hb1 : BlkC w1 b (colE n l.length []) := m1.at_
  refine c_slices_Min_int64_int64 (ha.keep m1.below) (by intro h; rw [h] at k0; simp at k0) fun m hm hle => ⟨fun h => ?_, fun h => ?_⟩
  · have h := eq_t h
    have hmem : (1 : Int) ∈ l := by rw [← h]; exact hm
    rw [if_pos hmem] at hK
    have hv : vis r [] = [] := by unfold vis; split <;> rfl
    have hr : resV r [] = true := by unfold resV; simp
    rw [hv, hr] at hK
    exact hK w1 j1
  · have h := eq_f h
    have hno : (1 : Int) ∉ l := fun hm1 => by
      have h1 := hle 1 hm1
      have h2 := hl m hm
      omega
    rw [if_neg hno] at hK
    have hrec := fun K' => c_impl_avoiding (b := b) (f := f) (a := a) (n := n) (k := l.length) (l := l) r J M n0 n17 rfl (by omega) (by omega) hl hJ (fun d w1 w2 hj m => hst d w1 w2 b hj (by omega) m) (fun d es w' K' h1 h2 h3 h4 h5 h6 => hcall b d es w' K' (by omega) h1 h2 h3 h4 h5 h6) (2 * (edgesOf n).toNat + 2) 0 1 [] [] w1 K' (by simp) (by omega) (by omega) (by omega) n0 (fun _ => rfl) (by rw [show edgesOf 1 = 0 from by decide]; rfl) (by simp)
    simp only [List.length_nil, Nat.sub_zero, Nat.zero_add, List.nil_append] at hrec
    exact hrec _ hM j1 hb1 fun w' hj' _ => hK w' hj'

end Go.Proofs.Ytkadckhealbdaaa

/- The reading of impl_firstAvoiding_1, and its contract. No condition. -/
namespace Go.Proofs.Ytkadckhealbdaaa
open Go Go.RowKit Eng Mem
set_option linter.unusedVariables false
set_option maxRecDepth 100000
def V_impl_firstAvoiding_1 (x0 : Value) (x1 : Value) (w : World) (K : Bool → World → Prop) : Prop :=
  (NilOk x0 ∧ (QSub Try.prog (Instr.loadAt 25 x0) w .any fun (x6_1 : Value) => (PrU Try.prog (Instr.storeAt 25 x1 x6_1) w fun w_2 => K false w_2)))

theorem eq_impl_firstAvoiding_1 (x0 : Value) (x1 : Value) (w : World) (K : Bool → World → Prop) :
    W Try.prog ty (fun _ _ _ _ => False) (bodyOf Try.f111) (fnPost Try.prog Try.f111.results.toList (.one .bool) K) (frame0 [x0, x1] 7) w = V_impl_firstAvoiding_1 x0 x1 w K := by
  kernel_rfl

theorem body_impl_firstAvoiding_1 : Try.f111.body = some (bodyOf Try.f111) := by kernel_rfl
theorem name_impl_firstAvoiding_1 : (Try.f111.name == "runtime.NumGoroutine") = false := by kernel_rfl

theorem walk_impl_firstAvoiding_1 (x0 : Value) (x1 : Value) {w : World} {K : Bool → World → Prop} (h : V_impl_firstAvoiding_1 x0 x1 w K) : Fc Try.prog 111 #[x0, x1] w (.one .bool) K :=
  fn_ok follows (sound_none _) Try.func111 name_impl_firstAvoiding_1 body_impl_firstAvoiding_1 Try.ntmps111 [x0, x1] (Eq.mpr (eq_impl_firstAvoiding_1 x0 x1 w K) h)

-- uses S9AvoM
theorem c_impl_firstAvoiding_1 {px : Value} {x : Col} {bo : Nat} {l0 : List Value} {w : World} {K : Bool → World → Prop} (hx : x.Ok) (ax : ColAt w px x) (hb : Blk w bo l0 tC) (hl : l0.length = zC.length) (hK : ∀ w', Mod [bo] w w' → BlkC w' bo x → K false w') :
    Fc Try.prog F_impl_firstAvoiding_1 #[px, ptr bo 0] w (.one .bool) K :=
  walk_impl_firstAvoiding_1 _ _ ⟨ax.nonnil, col_all hx ax (stA0 yC hb hx.cells_len (by rw [hx.cells_len, hl]) x.cells_one fun w2 m2 s2 h2 => hK w2 m2 h2)⟩

end Go.Proofs.Ytkadckhealbdaaa

/- The reading of impl_firstAvoiding, and its contract. No condition. -/
namespace Go.Proofs.Ytkadckhealbdaaa
open Go Go.RowKit Eng Mem
set_option linter.unusedVariables false
set_option maxRecDepth 100000
def V_impl_firstAvoiding (n0 : Int) (sizes1 : Value) (w : World) (K : (Value × Bool) → World → Prop) : Prop :=
  (Pr Try.prog (Instr.alloc 25 true (.tuple #[])) w (.one .any) fun (x4_2 : Value) w_1 => (Pr Try.prog (Instr.build 25 #[]) w_1 (.one .any) fun (x8_4 : Value) w_3 => (Pr Try.prog (Instr.alloc 25 true (.tuple #[])) w_3 (.one .any) fun (out6_6 : Value) w_5 => (PrU Try.prog (Instr.storeAt 25 out6_6 x8_4) w_5 fun w_7 => (Fc Try.prog 79 #[(.int .i64 n0), sizes1, (.func (.func 111) #[] #[out6_6])] w_7 (.one .bool) fun (x12_10 : Bool) w_9 => (QSub Try.prog (Instr.loadAt 25 out6_6) w_9 .any fun (x13_11 : Value) => (PrU Try.prog (Instr.storeAt 25 x4_2 x13_11) w_9 fun w_12 => (QSub Try.prog (Instr.loadAt 25 x4_2) w_12 .any fun (r_14 : Value) => K ((r_14 : Value), (!x12_10)) w_12))))))))

theorem eq_impl_firstAvoiding (n0 : Int) (sizes1 : Value) (w : World) (K : (Value × Bool) → World → Prop) :
    W Try.prog ty (fun _ _ _ _ => False) (bodyOf Try.f83) (fnPost Try.prog Try.f83.results.toList (.two .any .bool) K) (frame0 [(.int .i64 n0), sizes1] 16) w = V_impl_firstAvoiding n0 sizes1 w K := by
  kernel_rfl

theorem body_impl_firstAvoiding : Try.f83.body = some (bodyOf Try.f83) := by kernel_rfl
theorem name_impl_firstAvoiding : (Try.f83.name == "runtime.NumGoroutine") = false := by kernel_rfl

theorem walk_impl_firstAvoiding (n0 : Int) (sizes1 : Value) {w : World} {K : (Value × Bool) → World → Prop} (h : V_impl_firstAvoiding n0 sizes1 w K) : Fc Try.prog 83 #[(.int .i64 n0), sizes1] w (.two .any .bool) K :=
  fn_ok follows (sound_none _) Try.func83 name_impl_firstAvoiding body_impl_firstAvoiding Try.ntmps83 [(.int .i64 n0), sizes1] (Eq.mpr (eq_impl_firstAvoiding n0 sizes1 w K) h)

-- uses S9AvoM
theorem take1_mem {L : List (List Int)} {es : List Int} {t : List (List Int)} (h : L = es :: t) : L.take 1 = [es] := by rw [h]; rfl
theorem c_impl_firstAvoiding {n : Int} {a : Value} {l : List Int} {w : World} {K : Value × Bool → World → Prop} (n0 : 1 ≤ n) (n8 : n ≤ 8) (hl2 : l.length = 2) (hl : AllIn l 1 17) (ha : SlI w a l)
    (hK : ∀ c w', Below w.heap.size w w' → c.Ok → (∀ es t, allE n l = es :: t → c = colE n 2 es) → K (c.val, !(allE n l).isEmpty) w') : Fc Try.prog F_impl_firstAvoiding #[.int .i64 n, a] w (.two .any .bool) K := by
  have hbd : (extE l l.length (edgesOf n).toNat []).length ≤ 1073741824 := by
    refine Nat.le_trans (extE_len l l.length (edgesOf n).toNat []) ?_
    have e8 := edgesOf_mono (j := n) (n := 8) (by omega) (by omega)
    rw [show edgesOf 8 = 28 from by decide] at e8
    rw [hl2]
    exact Nat.le_trans (Nat.pow_le_pow_right (by omega) (show (edgesOf n).toNat ≤ 28 by omega)) (by decide)
  refine walk_impl_firstAvoiding _ _ (c_alloc fun p w1 q1 hv => build0 (allocA yC fun bo w2 m2 => stA0 yC m2.at_ (by simp [col0, Col.cells, zC, zA]) (by simp [col0, Col.cells, zC, zA]) (Col.cells_one _) fun w3 m3 s3 h3 => ?_))
  have e2 := m2.here; have s2 := m2.size; have hs1 := q1.size
  have b13 : Below w1.heap.size w1 w3 := m2.below.trans (m3.below (by omega) (by simp; omega))
  have q3 := q1.trans (b13.mono hs1)
  have hne := hv.ne (Nat.le_of_eq e2.symm)
  have hv3 := (hv.keep m2.below).mod m3 hne
  have h3 : BlkC w3 bo col0 := h3
  have hlb := at_lt h3
  have hed := edges_bd (n := n) (by omega) (by omega)
  refine c_impl_allAvoiding false (fun d w' => Below w.heap.size w w' ∧ w3.heap.size ≤ w'.heap.size ∧ CVar w.heap.size w' p ∧ ∃ c : Col, c.Ok ∧ BlkC w' bo c ∧ ∀ es, d = [es] → c = colE n 2 es) 1073741824 n0 (by omega) (by omega) (by omega) hl (ha.keep q3) hbd
    (fun d w' hj => ha.keep hj.1) (fun d w1' w2' b hj hb m => ?_) ⟨q3, Nat.le_refl _, hv3, col0, col0_ok, h3, fun es h => by cases h⟩
    (fun b d es w' K' hb hel hes hd hj hbc hk' => ?_) fun w4 hj4 => ?_
  · obtain ⟨j1, j2, j3, c, j4, j5, j6⟩ := hj
    have hz := j1.size; have hb5 := at_lt j5
    refine ⟨j1.trans (m.below (by omega) (by simp; omega)), Nat.le_trans j2 m.size, j3.mod m ?_, c, j4, m.at_ j5 (by simp; omega), j6⟩
    exact hv3.ne hb
  · obtain ⟨j1, j2, j3, c, j4, j5, j6⟩ := hj
    have hok : (colE n 2 es).Ok := colE_ok ⟨by omega, by omega⟩ (by omega) (by omega) fun e he => by have := hes e he; omega
    rw [show ((l.length : Nat) : Int) = 2 from by omega] at hbc hk'
    refine cv rfl (c_impl_firstAvoiding_1 hok (blk_row hbc) j5 j4.cells_len fun w'' m hb'' => hk' w'' ⟨j1.trans (m.below (by have := j1.size; omega) (by simp; omega)), Nat.le_trans j2 m.size, j3.mod m ?_, colE n 2 es, hok, hb'', fun es' h => ?_⟩ (m.at_ hbc (by simp; omega)))
    · obtain ⟨bv, lv, rfl, _, hbv, _⟩ := hv3
      intro he
      exact hne he
    · cases d with
      | nil =>
        simp at h
        rw [h]
      | cons x d => simp at h
  · obtain ⟨j1, j2, j3, c, j4, j5, j6⟩ := hj4
    have hres : resV false (allE n l) = (allE n l).isEmpty := by unfold resV; simp
    rw [hres]
    refine col_all j4 (blk_row j5) (c_ret j4 j3 j1.size fun w5 q5 => hK c w5 (j1.trans q5) j4 fun es t h => j6 es ?_)
    unfold vis
    simp [h]

end Go.Proofs.Ytkadckhealbdaaa

/- The reading of impl_FirstAvoiding, and its contract. No condition. -/
namespace Go.Proofs.Ytkadckhealbdaaa
open Go Go.RowKit Eng Mem
set_option linter.unusedVariables false
set_option maxRecDepth 100000
def V_impl_FirstAvoiding (n0 : Int) (sizes1 : Value) (w : World) (K : (Value × Int) → World → Prop) : Prop :=
  (Pr Try.prog (Instr.alloc 25 true (.tuple #[])) w (.one .any) fun (x4_2 : Value) w_1 => (Fc Try.prog 54 #[(.int .i64 n0), (.int .i64 (1 : Int)), (.int .i64 (8 : Int))] w_1 (.one .bool) fun (x9_4 : Bool) w_3 => (((!x9_4) = true → (Pr Try.prog (Instr.build 25 #[]) w_3 (.one .any) fun (x16_6 : Value) w_5 => (PrU Try.prog (Instr.storeAt 25 x4_2 x16_6) w_5 fun w_7 => (QSub Try.prog (Instr.loadAt 25 x4_2) w_7 .any fun (r_9 : Value) => K ((r_9 : Value), (2 : Int)) w_7)))) ∧ ((!x9_4) = false → (Fc Try.prog 77 #[sizes1, (.int .i64 (2 : Int))] w_3 (.one .bool) fun (x13_11 : Bool) w_10 => (((!x13_11) = true → (Pr Try.prog (Instr.build 25 #[]) w_10 (.one .any) fun (x16_13 : Value) w_12 => (PrU Try.prog (Instr.storeAt 25 x4_2 x16_13) w_12 fun w_14 => (QSub Try.prog (Instr.loadAt 25 x4_2) w_14 .any fun (r_16 : Value) => K ((r_16 : Value), (2 : Int)) w_14)))) ∧ ((!x13_11) = false → (Fc Try.prog 83 #[(.int .i64 n0), sizes1] w_10 (.two .any .bool) fun (x20_18 : Value × Bool) w_17 => (Pr Try.prog (Instr.alloc 25 true (.tuple #[])) w_17 (.one .any) fun (x6_20 : Value) w_19 => (PrU Try.prog (Instr.storeAt 25 x6_20 x20_18.1) w_19 fun w_21 => (((!x20_18.2) = true → (Pr Try.prog (Instr.build 25 #[]) w_21 (.one .any) fun (x25_24 : Value) w_23 => (PrU Try.prog (Instr.storeAt 25 x4_2 x25_24) w_23 fun w_25 => (QSub Try.prog (Instr.loadAt 25 x4_2) w_25 .any fun (r_27 : Value) => K ((r_27 : Value), (4 : Int)) w_25)))) ∧ ((!x20_18.2) = false → (QSub Try.prog (Instr.loadAt 25 x6_20) w_21 .any fun (x26_28 : Value) => (PrU Try.prog (Instr.storeAt 25 x4_2 x26_28) w_21 fun w_29 => (QSub Try.prog (Instr.loadAt 25 x4_2) w_29 .any fun (r_31 : Value) => K ((r_31 : Value), (0 : Int)) w_29)))))))))))))))

theorem eq_impl_FirstAvoiding (n0 : Int) (sizes1 : Value) (w : World) (K : (Value × Int) → World → Prop) :
    W Try.prog ty (fun _ _ _ _ => False) (bodyOf Try.f39) (fnPost Try.prog Try.f39.results.toList (.two .any (.int .i64)) K) (frame0 [(.int .i64 n0), sizes1] 27) w = V_impl_FirstAvoiding n0 sizes1 w K := by
  kernel_rfl

theorem body_impl_FirstAvoiding : Try.f39.body = some (bodyOf Try.f39) := by kernel_rfl
theorem name_impl_FirstAvoiding : (Try.f39.name == "runtime.NumGoroutine") = false := by kernel_rfl

theorem walk_impl_FirstAvoiding (n0 : Int) (sizes1 : Value) {w : World} {K : (Value × Int) → World → Prop} (h : V_impl_FirstAvoiding n0 sizes1 w K) : Fc Try.prog 39 #[(.int .i64 n0), sizes1] w (.two .any (.int .i64)) K :=
  fn_ok follows (sound_none _) Try.func39 name_impl_FirstAvoiding body_impl_FirstAvoiding Try.ntmps39 [(.int .i64 n0), sizes1] (Eq.mpr (eq_impl_FirstAvoiding n0 sizes1 w K) h)

-- uses S9AvoM
theorem fstA_ok (n : Int) (l : List Int) : (fstA n l).1.Ok := by
  unfold fstA
  split
  · rename_i h
    split
    · exact col0_ok
    · rename_i es t he
      have hed := edges_bd (n := n) (by omega) (by omega)
      have hmem : es ∈ allE n l := by rw [he]; exact List.mem_cons_self ..
      unfold allE at hmem
      split at hmem
      · cases hmem
      · obtain ⟨u, hu, hul, hub⟩ := extE_mem _ _ _ _ _ hmem
        rw [List.nil_append] at hu
        subst hu
        exact colE_ok ⟨by omega, by omega⟩ (by omega) (by omega) fun e he => by have := hub e he; omega
  · exact col0_ok
theorem c_impl_FirstAvoiding {n : Int} {a : Value} {l : List Int} {w : World} {K : Value × Int → World → Prop} (_ : I64 n) (ha : ArgI w a l)
    (hK : ∀ w', Below w.heap.size w w' → (fstA n l).1.Ok → K ((fstA n l).1.val, (fstA n l).2) w') : Fc Try.prog F_impl_FirstAvoiding #[.int .i64 n, a] w (.two .any (.int .i64)) K := by
  have hK := fun w' hb => hK w' hb (fstA_ok n l)
  unfold fstA at hK
  refine walk_impl_FirstAvoiding _ _ (c_alloc fun p w1 q1 hv => c_impl_in _ _ _ ⟨fun h => ?_, fun h => c_impl_areForbidden (ha.sl.keep q1) fun w2 q2 => ?_⟩)
  · rw [if_neg (fun hh => notd_t h hh.1)] at hK
    exact c_none hv q1.size fun w3 q3 => hK w3 (q1.trans q3)
  have hs1 := q1.size; have hs2 := q2.size
  have q12 := q1.trans (q2.mono hs1)
  have hv2 := hv.keep q2
  refine ⟨fun h2 => ?_, fun h2 => ?_⟩
  · rw [if_neg (fun hh => notd_t h2 ⟨by have := hh.2.1; omega, hh.2.2⟩)] at hK
    exact c_none hv2 (by omega) fun w3 q3 => hK w3 (q12.trans q3)
  have h := notd_f h; have h2 := notd_f h2
  rw [if_pos ⟨h, by omega, h2.2⟩] at hK
  refine c_impl_firstAvoiding h.1 h.2 (by omega) h2.2 (ha.sl.keep q12) fun c w3 q3 hc hcs => col_var hc fun b w4 hb hb4 q4 ac => ?_
  have q13 := q12.trans (q3.mono q12.size)
  have q14 := q13.trans (q4.mono q13.size)
  have hs3 := q3.size; have hs4 := q4.size
  have hv4 := (hv2.keep q3).keep q4
  cases hA : allE n l with
  | nil =>
    rw [hA] at hK
    exact ⟨fun _ => c_none hv4 (by omega) fun w5 q5 => hK w5 (q14.trans q5), fun hh => absurd hh (by simp)⟩
  | cons es t =>
    rw [hA] at hK
    have hce := hcs es t hA
    subst hce
    exact ⟨fun hh => absurd hh (by simp), fun _ => col_all hc ac (c_ret hc hv4 (by omega) fun w5 q5 => hK w5 (q14.trans q5))⟩

end Go.Proofs.Ytkadckhealbdaaa

/- The reading of laws_eqByteA136, and its contract. No condition. -/
namespace Go.Proofs.Ytkadckhealbdaaa
open Go Go.RowKit Eng Mem
set_option linter.unusedVariables false
set_option maxRecDepth 100000
def B_laws_eqByteA136_2 (a2 : Value) (b3 : Value) (i5 : Int) (N : (Value × Value) → Int → World → Prop) (D0 : (Unit) → World → Prop) (R : (Bool × Unit) → World → Prop) (w : World) : Prop :=
  (((decide (i5 < (136 : Int))) = true → (∀ w_5, Drew w w_5 → (QAll Try.prog (Instr.indexAt 22 a2 (.int .i64 i5)) .any fun (x11_6 : Value) => (QSub Try.prog (Instr.loadAt 5 x11_6) w_5 (.int .u8) fun (x12_7 : Int) => (QAll Try.prog (Instr.indexAt 22 b3 (.int .i64 i5)) .any fun (x14_8 : Value) => (QSub Try.prog (Instr.loadAt 5 x14_8) w_5 (.int .u8) fun (x15_9 : Int) => (((x12_7 != x15_9) = true → R (false, ()) w_5) ∧ ((x12_7 != x15_9) = false → N ((a2 : Value), (b3 : Value)) (IntKind.i64.wrap (i5 + (1 : Int))) w_5)))))))) ∧ ((decide (i5 < (136 : Int))) = false → D0 () w))

abbrev L_laws_eqByteA136_2_e0 : List Slot := [.junk, .junk, .junk, .junk, .junk, .junk, .junk, .junk, .junk, .junk, .junk, .junk, .junk, .junk, .junk, .junk, .junk]

abbrev L_laws_eqByteA136_2_sp : List Slot := [.junk, .junk, .k .any, .k .any, .junk, .k (.int .i64), .junk, .junk, .junk, .junk, .junk, .junk, .junk, .junk, .junk, .junk, .junk]
abbrev L_laws_eqByteA136_2_ex : List (Nat × List Slot) := [(0, L_laws_eqByteA136_2_e0)]
abbrev L_laws_eqByteA136_2_rt : List Slot := [.junk, .junk, .junk, .junk, .k .bool, .junk, .junk, .junk, .junk, .junk, .junk, .junk, .junk, .junk, .junk, .junk, .junk]

def L_laws_eqByteA136_2_b (Φ : Post) (u : (Value × Value)) (N : (Value × Value) → Int → World → Prop) (s : Int) (w : World) : Prop :=
  B_laws_eqByteA136_2 u.1 u.2 s N (fun v w => ∀ j : Nat → Value, Φ (.exit 0) (mkT j 0 L_laws_eqByteA136_2_e0 v) w) (fun v w => ∀ j : Nat → Value, Φ .ret (mkT j 0 L_laws_eqByteA136_2_rt v) w) w

theorem L_laws_eqByteA136_2_eq (j : Nat → Value) (u : (Value × Value)) (s : Int) (N : (Value × Value) → Int → World → Prop) (D0 : (Unit) → World → Prop) (R : (Bool × Unit) → World → Prop) (w : World) :
    W Try.prog ty (fun _ _ _ _ => False) (loopAt Try.f51 2) (loopPost L_laws_eqByteA136_2_sp [(0, (⟨L_laws_eqByteA136_2_e0, D0⟩ : Door))] ⟨L_laws_eqByteA136_2_rt, R⟩ (fun v w => N ((fun v => (v.1, v.2.1)) v) ((fun v => v.2.2.1) v) w)) (mkT j 0 L_laws_eqByteA136_2_sp ((fun u s => (u.1, u.2, s, ())) u s)) w =
    B_laws_eqByteA136_2 u.1 u.2 s N D0 R w := by
  kernel_rfl

def O_laws_eqByteA136_1 : Code → Post → List SV → World → Prop :=
  orc 2 (loopAt Try.f51 2) L_laws_eqByteA136_2_sp (fun Φ fr w => LOOP (U := (Value × Value)) (S := Int) ((fun v => (v.1, v.2.1)) (extT L_laws_eqByteA136_2_sp fr)) (L_laws_eqByteA136_2_b Φ ((fun v => (v.1, v.2.1)) (extT L_laws_eqByteA136_2_sp fr))) ((fun v => v.2.2.1) (extT L_laws_eqByteA136_2_sp fr)) w) (fun _ _ _ _ => False)

theorem O_laws_eqByteA136_1_ok : Sound Try.prog O_laws_eqByteA136_1 :=
  orc_ok (sound_none _) fun Φ fr w hs h => loop_ok (ty := ty) follows (sound_none _) L_laws_eqByteA136_2_sp (fun v => (v.1, v.2.1)) (fun v => v.2.2.1) (fun u s => (u.1, u.2, s, ())) (fun _ => rfl) L_laws_eqByteA136_2_ex L_laws_eqByteA136_2_rt (body := L_laws_eqByteA136_2_b Φ) (fun j u s w N hb => by
    have e := L_laws_eqByteA136_2_eq j u s N (doorOf Φ (.exit 0) L_laws_eqByteA136_2_e0).D (doorOf Φ .ret L_laws_eqByteA136_2_rt).D w
    exact Eq.mpr e hb) hs h

def V_laws_eqByteA136 (a0 : Value) (b1 : Value) (w : World) (K : Bool → World → Prop) : Prop :=
  (Pr Try.prog (Instr.box 22 a0) w (.one .any) fun (a2_2 : Value) w_1 => (Pr Try.prog (Instr.box 22 b1) w_1 (.one .any) fun (b3_4 : Value) w_3 => (At (loopAt Try.f51 2) (loopAt Try.f51 2) (LOOP (U := (Value × Value)) (S := Int) ((a2_2 : Value), (b3_4 : Value)) (fun N_16 s_17 w_18 => B_laws_eqByteA136_2 (a2_2 : Value) (b3_4 : Value) s_17 N_16 (fun (v_10 : (Unit)) w_11 => ∀ _j_12 : Nat → Value, K true w_11) (fun (v_13 : (Bool × Unit)) w_14 => ∀ _j_15 : Nat → Value, K v_13.1 w_14) w_18) (0 : Int) w_3))))

theorem eq_laws_eqByteA136 (a0 : Value) (b1 : Value) (w : World) (K : Bool → World → Prop) :
    W Try.prog ty O_laws_eqByteA136_1 (bodyOf Try.f51) (fnPost Try.prog Try.f51.results.toList (.one .bool) K) (frame0 [a0, b1] 17) w = V_laws_eqByteA136 a0 b1 w K := by
  kernel_rfl

theorem body_laws_eqByteA136 : Try.f51.body = some (bodyOf Try.f51) := by kernel_rfl
theorem name_laws_eqByteA136 : (Try.f51.name == "runtime.NumGoroutine") = false := by kernel_rfl

theorem walk_laws_eqByteA136 (a0 : Value) (b1 : Value) {w : World} {K : Bool → World → Prop} (h : V_laws_eqByteA136 a0 b1 w K) : Fc Try.prog 51 #[a0, b1] w (.one .bool) K :=
  fn_ok follows O_laws_eqByteA136_1_ok Try.func51 name_laws_eqByteA136 body_laws_eqByteA136 Try.ntmps51 [a0, b1] (Eq.mpr (eq_laws_eqByteA136 a0 b1 w K) h)

-- uses S1Col
theorem c_laws_eqByteA136 {es fs : List Int} {w : World} {K : Bool → World → Prop} (h : es.length = 136) (k : fs.length = 136) (hK : ∀ w', Below w.heap.size w w' → K (decide (es = fs)) w') :
    Fc Try.prog F_laws_eqByteA136 #[.agg (es.map (Value.int .u8)).toArray, .agg (fs.map (Value.int .u8)).toArray] w (.one .bool) K := by
  refine walk_laws_eqByteA136 _ _ ?_
  refine box (es.map (Value.int .u8)) rfl fun b1 w1 n1 => box (fs.map (Value.int .u8)) rfl fun b2 w2 n2 => ?_
  have hb := n1.below.trans (n2.below.mono n1.below.size)
  have r1 : Row w2 (ptr b1 0) (es.map (Value.int .u8)) := (row_all n1.at_).keep n2.below
  have r2 : Row w2 (ptr b2 0) (fs.map (Value.int .u8)) := row_all n2.at_
  have hs := hb.size
  refine lp (fun i w' => 0 ≤ i ∧ i ≤ 136 ∧ Below w2.heap.size w2 w' ∧ ∀ j : Nat, (j : Int) < i → es.getD j 0 = fs.getD j 0) (fun i _ => (136 - i).toNat)
    ⟨by omega, by omega, Below.refl _ _, fun j hj => by omega⟩ ?_
  rintro i w3 N ⟨h0, hi, hb3, hall⟩ hN
  unfold B_laws_eqByteA136_2
  refine ⟨fun hlt w4 hd => ?_, fun hge => ?_⟩
  · have hlt := dec_t hlt
    have hb4 := hb3.trans (hd.below _)
    have q1 := r1.keep hb4; have q2 := r2.keep hb4
    refine ixR yR q1.isPtr h0 hlt (ld (k := .int .u8) (x := es.getD i.toNat 0) yB (by rw [Nat.mul_one]; exact q1.get _ (by simp [show i.toNat < es.length from by omega])) ?_)
    refine ixR yR q2.isPtr h0 hlt (ld (k := .int .u8) (x := fs.getD i.toNat 0) yB (by rw [Nat.mul_one]; exact q2.get _ (by simp [show i.toNat < fs.length from by omega])) ?_)
    refine ⟨fun hne _ => ?_, fun he => ?_⟩
    · have := hK w4 (hb.trans (hb4.mono hs))
      rwa [decide_eq_false (fun hh => ne_t hne (by rw [hh]))] at this
    · have he := ne_f he
      rw [wrap_small (by omega) (by omega)]
      refine hN _ _ ⟨by omega, by omega, hb4, fun j hj => ?_⟩ (by omega)
      by_cases hji : (j : Int) < i
      · exact hall j hji
      · have : j = i.toNat := by omega
        subst this; exact he
  · have hge := dec_f hge
    intro _
    have := hK w3 (hb.trans (hb3.mono hs))
    have e : es = fs := List.ext_getElem (by omega) fun j h1 h2 => by
      have := hall j (by omega)
      simpa [List.getD, h1, h2] using this
    rwa [decide_eq_true e] at this

end Go.Proofs.Ytkadckhealbdaaa

/- The reading of laws_eqColouring, and its contract. No condition. -/
namespace Go.Proofs.Ytkadckhealbdaaa
open Go Go.RowKit Eng Mem
set_option linter.unusedVariables false
set_option maxRecDepth 100000
def V_laws_eqColouring (a0 : Value) (b1 : Value) (w : World) (K : Bool → World → Prop) : Prop :=
  (Pr Try.prog (Instr.box 25 a0) w (.one .any) fun (a2_2 : Value) w_1 => (Pr Try.prog (Instr.box 25 b1) w_1 (.one .any) fun (b3_4 : Value) w_3 => (QAll Try.prog (Instr.fieldAt 25 a2_2 0) .any fun (x5_5 : Value) => (QSub Try.prog (Instr.loadAt 2 x5_5) w_3 (.int .i64) fun (x6_6 : Int) => (QAll Try.prog (Instr.fieldAt 25 b3_4 0) .any fun (x7_7 : Value) => (QSub Try.prog (Instr.loadAt 2 x7_7) w_3 (.int .i64) fun (x8_8 : Int) => (((x6_6 != x8_8) = true → K false w_3) ∧ ((x6_6 != x8_8) = false → (QAll Try.prog (Instr.fieldAt 25 a2_2 1) .any fun (x10_9 : Value) => (QSub Try.prog (Instr.loadAt 2 x10_9) w_3 (.int .i64) fun (x11_10 : Int) => (QAll Try.prog (Instr.fieldAt 25 b3_4 1) .any fun (x12_11 : Value) => (QSub Try.prog (Instr.loadAt 2 x12_11) w_3 (.int .i64) fun (x13_12 : Int) => (((x11_10 != x13_12) = true → K false w_3) ∧ ((x11_10 != x13_12) = false → (QAll Try.prog (Instr.fieldAt 25 a2_2 2) .any fun (x15_13 : Value) => (QSub Try.prog (Instr.loadAt 22 x15_13) w_3 .any fun (x16_14 : Value) => (QAll Try.prog (Instr.fieldAt 25 b3_4 2) .any fun (x17_15 : Value) => (QSub Try.prog (Instr.loadAt 22 x17_15) w_3 .any fun (x18_16 : Value) => (Fc Try.prog 51 #[x16_14, x18_16] w_3 (.one .bool) fun (x19_18 : Bool) w_17 => (((!x19_18) = true → K false w_17) ∧ ((!x19_18) = false → K true w_17)))))))))))))))))))))

theorem eq_laws_eqColouring (a0 : Value) (b1 : Value) (w : World) (K : Bool → World → Prop) :
    W Try.prog ty (fun _ _ _ _ => False) (bodyOf Try.f17) (fnPost Try.prog Try.f17.results.toList (.one .bool) K) (frame0 [a0, b1] 21) w = V_laws_eqColouring a0 b1 w K := by
  kernel_rfl

theorem body_laws_eqColouring : Try.f17.body = some (bodyOf Try.f17) := by kernel_rfl
theorem name_laws_eqColouring : (Try.f17.name == "runtime.NumGoroutine") = false := by kernel_rfl

theorem walk_laws_eqColouring (a0 : Value) (b1 : Value) {w : World} {K : Bool → World → Prop} (h : V_laws_eqColouring a0 b1 w K) : Fc Try.prog 17 #[a0, b1] w (.one .bool) K :=
  fn_ok follows (sound_none _) Try.func17 name_laws_eqColouring body_laws_eqColouring Try.ntmps17 [a0, b1] (Eq.mpr (eq_laws_eqColouring a0 b1 w K) h)

-- uses S1Col
theorem c_laws_eqColouring {c d : Col} {w : World} {K : Bool → World → Prop} (h : c.Ok) (k : d.Ok) (hK : ∀ w', Below w.heap.size w w' → K (decide (c = d)) w') :
    Fc Try.prog F_laws_eqColouring #[c.val, d.val] w (.one .bool) K := by
  refine walk_laws_eqColouring _ _ ?_
  refine col_box fun b1 w1 n1 x1 => col_box fun b2 w2 n2 x2 => ?_
  have hb := n1.below.trans (n2.below.mono n1.below.size)
  replace x1 := x1.keep n2.below
  have no : ∀ w', Below w.heap.size w w' → c ≠ d → K false w' := fun w' hb he => by have := hK w' hb; rwa [decide_eq_false he] at this
  refine fld f0 x1.nonnil x1.isPtr (ld (k := .int .i64) yI (x1.get 0 rfl) (fld f0 x2.nonnil x2.isPtr (ld (k := .int .i64) yI (x2.get 0 rfl) ⟨fun hn => no _ hb fun he => ne_t hn (by rw [he]), fun e0 => ?_⟩)))
  refine fld f1 x1.nonnil x1.isPtr (ld (k := .int .i64) yI (x1.get 1 rfl) (fld f1 x2.nonnil x2.isPtr (ld (k := .int .i64) yI (x2.get 1 rfl) ⟨fun hn => no _ hb fun he => ne_t hn (by rw [he]), fun e1 => ?_⟩)))
  refine fld f2 x1.nonnil x1.isPtr (ldA yA h.es_len (Col.es_row x1) (fld f2 x2.nonnil x2.isPtr (ldA yA k.es_len (Col.es_row x2) ?_)))
  refine c_laws_eqByteA136 h.len k.len fun w3 hb3 => ?_
  have hbb := hb.trans (hb3.mono hb.size)
  refine ⟨fun hn => no _ hbb fun he => notd_t hn (by rw [he]), fun e2 => ?_⟩
  have e2 := notd_f e2
  have := hK w3 hbb
  have e : c = d := by cases c; cases d; simp only [Col.mk.injEq]; exact ⟨ne_f e0, ne_f e1, e2⟩
  rwa [decide_eq_true e] at this

end Go.Proofs.Ytkadckhealbdaaa

/- The reading of laws_eqInt64S, and its contract. No condition. -/
namespace Go.Proofs.Ytkadckhealbdaaa
open Go Go.RowKit Eng Mem
set_option linter.unusedVariables false
set_option maxRecDepth 100000
def B_laws_eqInt64S_4 (a0 : Value) (b1 : Value) (i5 : Int) (N : (Value × Value) → Int → World → Prop) (D0 : (Unit) → World → Prop) (R : (Bool × Unit) → World → Prop) (w : World) : Prop :=
  (QAll Try.prog (Builtin.len_ #[31] 3 #[a0]) (.int .i64) fun (x13_3 : Int) => (((decide (i5 < x13_3)) = true → (∀ w_4, Drew w w_4 → (QAll Try.prog (Instr.indexAt 31 a0 (.int .i64 i5)) .any fun (x19_5 : Value) => (QSub Try.prog (Instr.loadAt 2 x19_5) w_4 (.int .i64) fun (x20_6 : Int) => (QAll Try.prog (Instr.indexAt 31 b1 (.int .i64 i5)) .any fun (x23_7 : Value) => (QSub Try.prog (Instr.loadAt 2 x23_7) w_4 (.int .i64) fun (x24_8 : Int) => (((x20_6 != x24_8) = true → R (false, ()) w_4) ∧ ((x20_6 != x24_8) = false → N ((a0 : Value), (b1 : Value)) (IntKind.i64.wrap (i5 + (1 : Int))) w_4)))))))) ∧ ((decide (i5 < x13_3)) = false → D0 () w)))

abbrev L_laws_eqInt64S_4_e0 : List Slot := [.junk, .junk, .junk, .junk, .junk, .junk, .junk, .junk, .junk, .junk, .junk, .junk, .junk, .junk, .junk, .junk, .junk, .junk, .junk, .junk, .junk, .junk, .junk, .junk, .junk, .junk]

abbrev L_laws_eqInt64S_4_sp : List Slot := [.k .any, .k .any, .junk, .junk, .junk, .k (.int .i64), .junk, .junk, .junk, .junk, .junk, .junk, .junk, .junk, .junk, .junk, .junk, .junk, .junk, .junk, .junk, .junk, .junk, .junk, .junk, .junk]
abbrev L_laws_eqInt64S_4_ex : List (Nat × List Slot) := [(0, L_laws_eqInt64S_4_e0)]
abbrev L_laws_eqInt64S_4_rt : List Slot := [.junk, .junk, .junk, .junk, .k .bool, .junk, .junk, .junk, .junk, .junk, .junk, .junk, .junk, .junk, .junk, .junk, .junk, .junk, .junk, .junk, .junk, .junk, .junk, .junk, .junk, .junk]

def L_laws_eqInt64S_4_b (Φ : Post) (u : (Value × Value)) (N : (Value × Value) → Int → World → Prop) (s : Int) (w : World) : Prop :=
  B_laws_eqInt64S_4 u.1 u.2 s N (fun v w => ∀ j : Nat → Value, Φ (.exit 0) (mkT j 0 L_laws_eqInt64S_4_e0 v) w) (fun v w => ∀ j : Nat → Value, Φ .ret (mkT j 0 L_laws_eqInt64S_4_rt v) w) w

theorem L_laws_eqInt64S_4_eq (j : Nat → Value) (u : (Value × Value)) (s : Int) (N : (Value × Value) → Int → World → Prop) (D0 : (Unit) → World → Prop) (R : (Bool × Unit) → World → Prop) (w : World) :
    W Try.prog ty (fun _ _ _ _ => False) (loopAt Try.f20 4) (loopPost L_laws_eqInt64S_4_sp [(0, (⟨L_laws_eqInt64S_4_e0, D0⟩ : Door))] ⟨L_laws_eqInt64S_4_rt, R⟩ (fun v w => N ((fun v => (v.1, v.2.1)) v) ((fun v => v.2.2.1) v) w)) (mkT j 0 L_laws_eqInt64S_4_sp ((fun u s => (u.1, u.2, s, ())) u s)) w =
    B_laws_eqInt64S_4 u.1 u.2 s N D0 R w := by
  kernel_rfl

def O_laws_eqInt64S_1 : Code → Post → List SV → World → Prop :=
  orc 4 (loopAt Try.f20 4) L_laws_eqInt64S_4_sp (fun Φ fr w => LOOP (U := (Value × Value)) (S := Int) ((fun v => (v.1, v.2.1)) (extT L_laws_eqInt64S_4_sp fr)) (L_laws_eqInt64S_4_b Φ ((fun v => (v.1, v.2.1)) (extT L_laws_eqInt64S_4_sp fr))) ((fun v => v.2.2.1) (extT L_laws_eqInt64S_4_sp fr)) w) (fun _ _ _ _ => False)

theorem O_laws_eqInt64S_1_ok : Sound Try.prog O_laws_eqInt64S_1 :=
  orc_ok (sound_none _) fun Φ fr w hs h => loop_ok (ty := ty) follows (sound_none _) L_laws_eqInt64S_4_sp (fun v => (v.1, v.2.1)) (fun v => v.2.2.1) (fun u s => (u.1, u.2, s, ())) (fun _ => rfl) L_laws_eqInt64S_4_ex L_laws_eqInt64S_4_rt (body := L_laws_eqInt64S_4_b Φ) (fun j u s w N hb => by
    have e := L_laws_eqInt64S_4_eq j u s N (doorOf Φ (.exit 0) L_laws_eqInt64S_4_e0).D (doorOf Φ .ret L_laws_eqInt64S_4_rt).D w
    exact Eq.mpr e hb) hs h

def V_laws_eqInt64S (a0 : Value) (b1 : Value) (w : World) (K : Bool → World → Prop) : Prop :=
  (QAll Try.prog (Builtin.len_ #[31] 3 #[a0]) (.int .i64) fun (x7_1 : Int) => (QAll Try.prog (Builtin.len_ #[31] 3 #[b1]) (.int .i64) fun (x9_2 : Int) => (((x7_1 != x9_2) = true → K false w) ∧ ((x7_1 != x9_2) = false → (At (loopAt Try.f20 4) (loopAt Try.f20 4) (LOOP (U := (Value × Value)) (S := Int) ((a0 : Value), (b1 : Value)) (fun N_15 s_16 w_17 => B_laws_eqInt64S_4 (a0 : Value) (b1 : Value) s_16 N_15 (fun (v_9 : (Unit)) w_10 => ∀ _j_11 : Nat → Value, K true w_10) (fun (v_12 : (Bool × Unit)) w_13 => ∀ _j_14 : Nat → Value, K v_12.1 w_13) w_17) (0 : Int) w))))))

theorem eq_laws_eqInt64S (a0 : Value) (b1 : Value) (w : World) (K : Bool → World → Prop) :
    W Try.prog ty O_laws_eqInt64S_1 (bodyOf Try.f20) (fnPost Try.prog Try.f20.results.toList (.one .bool) K) (frame0 [a0, b1] 26) w = V_laws_eqInt64S a0 b1 w K := by
  kernel_rfl

theorem body_laws_eqInt64S : Try.f20.body = some (bodyOf Try.f20) := by kernel_rfl
theorem name_laws_eqInt64S : (Try.f20.name == "runtime.NumGoroutine") = false := by kernel_rfl

theorem walk_laws_eqInt64S (a0 : Value) (b1 : Value) {w : World} {K : Bool → World → Prop} (h : V_laws_eqInt64S a0 b1 w K) : Fc Try.prog 20 #[a0, b1] w (.one .bool) K :=
  fn_ok follows O_laws_eqInt64S_1_ok Try.func20 name_laws_eqInt64S body_laws_eqInt64S Try.ntmps20 [a0, b1] (Eq.mpr (eq_laws_eqInt64S a0 b1 w K) h)

-- uses S2Sl
theorem c_laws_eqInt64S {a b : Value} {l m : List Int} {w : World} {K : Bool → World → Prop} (h : SlI w a l) (k : SlI w b m) (hK : ∀ w', Below w.heap.size w w' → K (decide (l = m)) w') :
    Fc Try.prog F_laws_eqInt64S #[a, b] w (.one .bool) K := by
  have hll := h.len; have hml := k.len
  have yes : ∀ w', Below w.heap.size w w' → l = m → K true w' := fun w' hb he => by have := hK w' hb; rwa [decide_eq_true he] at this
  have no : ∀ w', Below w.heap.size w w' → l ≠ m → K false w' := fun w' hb he => by have := hK w' hb; rwa [decide_eq_false he] at this
  refine walk_laws_eqInt64S _ _ ?_
  refine lenI h (lenI k ⟨fun hne => no w (Below.refl _ _) fun he => by simp [he] at hne, fun heq => ?_⟩)
  have heq : l.length = m.length := by have := ne_f heq; omega
  refine lp (fun i w' => 0 ≤ i ∧ i ≤ l.length ∧ Below w.heap.size w w' ∧ ∀ j : Nat, (j : Int) < i → l.getD j 0 = m.getD j 0) (fun i _ => (l.length - i).toNat)
    ⟨by omega, by omega, Below.refl _ _, fun j hj => by omega⟩ ?_
  rintro i w1 N ⟨h0, hi, hb, hall⟩ hN
  unfold B_laws_eqInt64S_4
  refine lenI (h.keep hb) ⟨fun hlt w' hd => ?_, fun hge => ?_⟩
  · have hlt := of_decide_eq_true hlt
    have hb' := hb.trans (hd.below _)
    refine atI (h.keep hb') h0 hlt (atI (k.keep hb') h0 (by omega) ⟨fun hne _ => ?_, fun he => ?_⟩)
    · exact no w' hb' fun hlm => by subst hlm; simp at hne
    · have he : l.getD i.toNat 0 = m.getD i.toNat 0 := by simpa using he
      rw [wrap_small (by omega) (by omega)]
      refine hN _ _ ⟨by omega, by omega, hb', fun j hj => ?_⟩ (by omega)
      by_cases hji : (j : Int) < i
      · exact hall j hji
      · have : j = i.toNat := by omega
        subst this; exact he
  · have hge := of_decide_eq_false hge
    refine fun _ => yes w1 hb (List.ext_getElem heq fun j h1 h2 => ?_)
    have := hall j (by omega)
    simpa [List.getD, h1, h2] using this

end Go.Proofs.Ytkadckhealbdaaa

/- The reading of laws_toInt64S, and its contract. No condition. -/
namespace Go.Proofs.Ytkadckhealbdaaa
open Go Go.RowKit Eng Mem
set_option linter.unusedVariables false
set_option maxRecDepth 100000
def B_laws_toInt64S_3 (a0 : Value) (out3 : Value) (i4 : Int) (N : (Value × Value) → Int → World → Prop) (D0 : (Value × Unit) → World → Prop) (w : World) : Prop :=
  (QAll Try.prog (Builtin.len_ #[31] 3 #[a0]) (.int .i64) fun (x10_4 : Int) => (((decide (i4 < x10_4)) = true → (QAll Try.prog (Instr.indexAt 31 a0 (.int .i64 i4)) .any fun (x18_5 : Value) => (QSub Try.prog (Instr.loadAt 2 x18_5) w (.int .i64) fun (x19_6 : Int) => (QAll Try.prog (Instr.indexAt 31 out3 (.int .i64 i4)) .any fun (x20_7 : Value) => (PrU Try.prog (Instr.storeAt 2 x20_7 (.int .i64 x19_6)) w fun w_8 => N ((a0 : Value), (out3 : Value)) (IntKind.i64.wrap (i4 + (1 : Int))) w_8))))) ∧ ((decide (i4 < x10_4)) = false → D0 ((out3 : Value), ()) w)))

abbrev L_laws_toInt64S_3_e0 : List Slot := [.junk, .junk, .junk, .k .any, .junk, .junk, .junk, .junk, .junk, .junk, .junk, .junk, .junk, .junk, .junk, .junk, .junk, .junk, .junk, .junk, .junk, .junk]

abbrev L_laws_toInt64S_3_sp : List Slot := [.k .any, .junk, .junk, .k .any, .k (.int .i64), .junk, .junk, .junk, .junk, .junk, .junk, .junk, .junk, .junk, .junk, .junk, .junk, .junk, .junk, .junk, .junk, .junk]
abbrev L_laws_toInt64S_3_ex : List (Nat × List Slot) := [(0, L_laws_toInt64S_3_e0)]
abbrev L_laws_toInt64S_3_rt : List Slot := [.junk, .junk, .junk, .junk, .junk, .junk, .junk, .junk, .junk, .junk, .junk, .junk, .junk, .junk, .junk, .junk, .junk, .junk, .junk, .junk, .junk, .junk]

def L_laws_toInt64S_3_b (Φ : Post) (u : (Value × Value)) (N : (Value × Value) → Int → World → Prop) (s : Int) (w : World) : Prop :=
  B_laws_toInt64S_3 u.1 u.2 s N (fun v w => ∀ j : Nat → Value, Φ (.exit 0) (mkT j 0 L_laws_toInt64S_3_e0 v) w) w

theorem L_laws_toInt64S_3_eq (j : Nat → Value) (u : (Value × Value)) (s : Int) (N : (Value × Value) → Int → World → Prop) (D0 : (Value × Unit) → World → Prop) (R : (Unit) → World → Prop) (w : World) :
    W Try.prog ty (fun _ _ _ _ => False) (loopAt Try.f24 3) (loopPost L_laws_toInt64S_3_sp [(0, (⟨L_laws_toInt64S_3_e0, D0⟩ : Door))] ⟨L_laws_toInt64S_3_rt, R⟩ (fun v w => N ((fun v => (v.1, v.2.1)) v) ((fun v => v.2.2.1) v) w)) (mkT j 0 L_laws_toInt64S_3_sp ((fun u s => (u.1, u.2, s, ())) u s)) w =
    B_laws_toInt64S_3 u.1 u.2 s N D0 w := by
  kernel_rfl

def O_laws_toInt64S_1 : Code → Post → List SV → World → Prop :=
  orc 3 (loopAt Try.f24 3) L_laws_toInt64S_3_sp (fun Φ fr w => LOOP (U := (Value × Value)) (S := Int) ((fun v => (v.1, v.2.1)) (extT L_laws_toInt64S_3_sp fr)) (L_laws_toInt64S_3_b Φ ((fun v => (v.1, v.2.1)) (extT L_laws_toInt64S_3_sp fr))) ((fun v => v.2.2.1) (extT L_laws_toInt64S_3_sp fr)) w) (fun _ _ _ _ => False)

theorem O_laws_toInt64S_1_ok : Sound Try.prog O_laws_toInt64S_1 :=
  orc_ok (sound_none _) fun Φ fr w hs h => loop_ok (ty := ty) follows (sound_none _) L_laws_toInt64S_3_sp (fun v => (v.1, v.2.1)) (fun v => v.2.2.1) (fun u s => (u.1, u.2, s, ())) (fun _ => rfl) L_laws_toInt64S_3_ex L_laws_toInt64S_3_rt (body := L_laws_toInt64S_3_b Φ) (fun j u s w N hb => by
    have e := L_laws_toInt64S_3_eq j u s N (doorOf Φ (.exit 0) L_laws_toInt64S_3_e0).D (doorOf Φ .ret L_laws_toInt64S_3_rt).D w
    exact Eq.mpr e hb) hs h

def V_laws_toInt64S (a0 : Value) (w : World) (K : Value → World → Prop) : Prop :=
  (QAll Try.prog (Builtin.len_ #[31] 3 #[a0]) (.int .i64) fun (x6_1 : Int) => (Pr Try.prog (Instr.makeSlice 31 (.int .i64 x6_1) (.int .i64 x6_1)) w (.one .any) fun (x7_3 : Value) w_2 => (At (loopAt Try.f24 3) (loopAt Try.f24 3) (LOOP (U := (Value × Value)) (S := Int) ((a0 : Value), (x7_3 : Value)) (fun N_13 s_14 w_15 => B_laws_toInt64S_3 (a0 : Value) (x7_3 : Value) s_14 N_13 (fun (v_10 : (Value × Unit)) w_11 => ∀ _j_12 : Nat → Value, K (v_10.1 : Value) w_11) w_15) (0 : Int) w_2))))

theorem eq_laws_toInt64S (a0 : Value) (w : World) (K : Value → World → Prop) :
    W Try.prog ty O_laws_toInt64S_1 (bodyOf Try.f24) (fnPost Try.prog Try.f24.results.toList (.one .any) K) (frame0 [a0] 22) w = V_laws_toInt64S a0 w K := by
  kernel_rfl

theorem body_laws_toInt64S : Try.f24.body = some (bodyOf Try.f24) := by kernel_rfl
theorem name_laws_toInt64S : (Try.f24.name == "runtime.NumGoroutine") = false := by kernel_rfl

theorem walk_laws_toInt64S (a0 : Value) {w : World} {K : Value → World → Prop} (h : V_laws_toInt64S a0 w K) : Fc Try.prog 24 #[a0] w (.one .any) K :=
  fn_ok follows O_laws_toInt64S_1_ok Try.func24 name_laws_toInt64S body_laws_toInt64S Try.ntmps24 [a0] (Eq.mpr (eq_laws_toInt64S a0 w K) h)

-- uses S2Sl
theorem c_laws_toInt64S {a : Value} {l : List Int} {w : World} {K : Value → World → Prop} (ha : ArgI w a l) (hK : ∀ v w', Below w.heap.size w w' → MyI w.heap.size w'.heap.size w' v l → K v w') :
    Fc Try.prog F_laws_toInt64S #[a] w (.one .any) K := by
  have h := ha.sl; have hl := ha.len
  refine walk_laws_toInt64S _ ?_
  refine lenI h (mkI (by omega) (by omega) fun b v w1 hn ho => ?_)
  have e := hn.here
  have h1 := h.keep hn.below
  refine lp (fun i w' => 0 ≤ i ∧ i ≤ l.length ∧ Below w.heap.size w w' ∧ OwnI w' b v (l.take i.toNat ++ List.replicate (l.length - i.toNat) 0)) (fun i _ => (l.length - i).toNat)
    ⟨by omega, by omega, hn.below, by simpa using ho⟩ ?_
  rintro i w' N ⟨h0, hi, hb, hO⟩ hN
  have h' := h.keep hb
  unfold B_laws_toInt64S_3
  refine lenI h' ⟨fun hlt => ?_, fun hge => ?_⟩
  · have hlt := of_decide_eq_true hlt
    refine atI h' h0 hlt (putI hO h0 (by simp; omega) fun w2 m hs hO2 => ?_)
    rw [wrap_small (by omega) (by omega)]
    have hs0 := hb.size
    refine hN _ _ ⟨by omega, by omega, hb.trans ((m.below (B := w.heap.size) (by omega) (by simp; omega)).mono (by omega)), ?_⟩ (by omega)
    have : (l.take i.toNat ++ List.replicate (l.length - i.toNat) 0).set i.toNat (l.getD i.toNat 0) = l.take (i + 1).toNat ++ List.replicate (l.length - (i + 1).toNat) 0 := by
      have := fill_step (xs := l) (zs := List.replicate l.length 0) (i := i.toNat) (by omega) (by simp)
      rw [show l.getD i.toNat 0 = l[i.toNat]'(by omega) from by simp [List.getD, show i.toNat < l.length from by omega], show (i + 1).toNat = i.toNat + 1 from by omega]
      simpa using this
    rw [this] at hO2
    exact hO2
  · have hge := of_decide_eq_false hge
    intro _
    have : i = l.length := by omega
    subst this
    have hO : OwnI w' b v l := by simpa using hO
    exact hK _ _ hb (own_my hO (by omega) (by omega) hO.lt)

end Go.Proofs.Ytkadckhealbdaaa

/- The reference's search for colourings that avoid sizes. No condition. -/
namespace Go.Proofs.Ytkadckhealbdaaa
open Go Go.RowKit Eng Mem
set_option maxRecDepth 100000
theorem esAt_symm (es : List Int) (p q : Int) : esAt es p q = esAt es q p := by
  unfold esAt num
  by_cases h : p < q
  · rw [if_pos h, if_neg (by omega)]
  · by_cases h' : q < p
    · rw [if_neg h, if_pos h']
    · rw [if_neg h, if_neg h', show p = q from by omega]
def setN (cs : List Int) (c : Int) : Nat := bitsN (fun p => decide (cs.getD p 0 = c)) cs.length
theorem setN_app (cs : List Int) (c d : Int) : setN (cs ++ [d]) c = if d = c then setN cs c ||| 2 ^ cs.length else setN cs c := by
  unfold setN
  have h1 : bitsN (fun p => decide ((cs ++ [d]).getD p 0 = c)) cs.length = bitsN (fun p => decide (cs.getD p 0 = c)) cs.length := bitsN_congr fun j hj => by
    rw [List.getD_eq_getElem?_getD, List.getElem?_append_left hj, ← List.getD_eq_getElem?_getD]
  have h2 : (cs ++ [d]).getD cs.length 0 = d := by simp [List.getD]
  rw [List.length_append, List.length_singleton, bitsN, h1, h2]
  by_cases h : d = c
  · rw [if_pos h, if_pos (by simpa using h), bitsN_or (bitsN_lt _ _)]
  · rw [if_neg h, if_neg (by simpa using h), Nat.add_zero]
theorem ok_spec {P k i c : Int} {l es cs : List Int} (i0 : 0 ≤ i) (iP : i < P) (P16 : P ≤ 16) (hl : (es.length : Int) = edgesOf P) (hc : (cs.length : Int) = i) :
    clqF (adjC (colE P k es) c) P.toNat (l.getD c.toNat 0 - 2).toNat (setN cs c &&& bitsN (fun p => joinB (colE P k es) i p c) P.toNat).testBit = !okE l (es ++ cs) i P c := by
  unfold okE
  rw [Bool.not_not]
  have h0 := edgesOf_mono (j := 0) (n := P) (by omega) (by omega)
  rw [show edgesOf 0 = 0 from by decide] at h0
  rw [clqF_n (n := P.toNat) (n' := 17) (by omega) _ (nearE (es ++ cs) i P c) (fun p hp => by unfold nearE at hp; have := of_decide_eq_true hp; omega)]
  rw [clqF_adj (adj := adjC (colE P k es) c) (adj' := adjE (es ++ cs) c) fun p q hpq hq => by
    have hb := num_lt' (p := (p : Int)) (q := (q : Int)) (j := P) (by omega) (by omega) (by omega)
    unfold adjC adjE
    rw [join_colE, esAt_app (by omega)]]
  refine clqF_congr fun p hp => ?_
  rw [Nat.testBit_and, testBit_bitsN, setN, testBit_bitsN, join_colE]
  unfold nearE
  rw [Bool.eq_iff_iff]
  simp only [Bool.and_eq_true, decide_eq_true_eq]
  constructor
  · rintro ⟨⟨h1, h2⟩, _, _, h3⟩
    have hpi : (p : Int) < i := by omega
    have hb1 := num_lt' (p := (p : Int)) (q := i) (j := P) (by omega) hpi (by omega)
    refine ⟨hpi, ?_, ?_⟩
    · rw [esAt_app (by omega), esAt_symm]; exact h3
    · rw [esAt_new (by omega) (by omega) hl, Int.toNat_natCast]; exact h2
  · rintro ⟨hpi, h3, h2⟩
    have hb1 := num_lt' (p := (p : Int)) (q := i) (j := P) (by omega) hpi (by omega)
    rw [esAt_app (by omega)] at h3
    rw [esAt_new (by omega) (by omega) hl, Int.toNat_natCast] at h2
    exact ⟨⟨by omega, h2⟩, hp, by omega, by rw [esAt_symm]; exact h3⟩
theorem ok_two {l es : List Int} {i j c : Int} (h : l.getD c.toNat 0 < 2) : okE l es i j c = false := by
  unfold okE
  rw [show (l.getD c.toNat 0 - 2).toNat = 0 from by omega]
  rfl
/-- A variable of a colouring is filled. -/
theorem c_put {B : Nat} {w : World} {p : Value} {c : Col} {K : World → Prop} (h : c.Ok) (hv : CVar B w p) (hB : B ≤ w.heap.size) (hK : ∀ w', Below B w w' → w'.heap.size = w.heap.size → ColAt w' p c → K w') : PrU Try.prog (Instr.storeAt tC p c.val) w K := by
  obtain ⟨b, l, rfl, hb, hl, hn⟩ := hv
  exact stA0 yC hl h.cells_len (by rw [h.cells_len, hn]) c.cells_one fun w2 m hs hb2 => hK w2 (m.below hB (by simp; omega)) hs (blk_row hb2)
theorem extE_ok {n k : Int} {l es : List Int} {f : Nat} {r : List Int} (hn : I64 n) (hk : k = l.length) (k4 : k ≤ 4) (hes : ∀ e ∈ es, 0 ≤ e ∧ e < k) (hl : es.length + f ≤ 136) (h : r ∈ extE l l.length f es) : r.length = es.length + f ∧ (∀ e ∈ r, 0 ≤ e ∧ e < k) ∧ (colE n k r).Ok := by
  obtain ⟨t, rfl, ht, hb⟩ := extE_mem _ _ _ _ _ h
  have hr : ∀ e ∈ es ++ t, 0 ≤ e ∧ e < k := fun e he => by
    rcases List.mem_append.1 he with he | he
    · exact hes e he
    · have := hb e he; omega
  exact ⟨by simp [ht], hr, colE_ok hn (by omega) (by simp [ht]; omega) fun e he => by have := hr e he; omega⟩
end Go.Proofs.Ytkadckhealbdaaa

/- The reading of spec_l01In, and its contract. No condition. -/
namespace Go.Proofs.Ytkadckhealbdaaa
open Go Go.RowKit Eng Mem
set_option linter.unusedVariables false
set_option maxRecDepth 100000
def V_spec_l01In (n0 : Int) (low1 : Int) (high2 : Int) (w : World) (K : Bool → World → Prop) : Prop :=
  (((decide (n0 ≥ low1)) = true → K (decide (n0 ≤ high2)) w) ∧ ((decide (n0 ≥ low1)) = false → K false w))

theorem eq_spec_l01In (n0 : Int) (low1 : Int) (high2 : Int) (w : World) (K : Bool → World → Prop) :
    W Try.prog ty (fun _ _ _ _ => False) (bodyOf Try.f43) (fnPost Try.prog Try.f43.results.toList (.one .bool) K) (frame0 [(.int .i64 n0), (.int .i64 low1), (.int .i64 high2)] 15) w = V_spec_l01In n0 low1 high2 w K := by
  kernel_rfl

theorem body_spec_l01In : Try.f43.body = some (bodyOf Try.f43) := by kernel_rfl
theorem name_spec_l01In : (Try.f43.name == "runtime.NumGoroutine") = false := by kernel_rfl

theorem walk_spec_l01In (n0 : Int) (low1 : Int) (high2 : Int) {w : World} {K : Bool → World → Prop} (h : V_spec_l01In n0 low1 high2 w K) : Fc Try.prog 43 #[(.int .i64 n0), (.int .i64 low1), (.int .i64 high2)] w (.one .bool) K :=
  fn_ok follows (sound_none _) Try.func43 name_spec_l01In body_spec_l01In Try.ntmps43 [(.int .i64 n0), (.int .i64 low1), (.int .i64 high2)] (Eq.mpr (eq_spec_l01In n0 low1 high2 w K) h)

theorem c_spec_l01In (n lo hi : Int) {w : World} {K : Bool → World → Prop} (hK : K (decide (lo ≤ n ∧ n ≤ hi)) w) : Fc Try.prog F_spec_l01In #[.int .i64 n, .int .i64 lo, .int .i64 hi] w (.one .bool) K := by
  refine walk_spec_l01In n lo hi ⟨fun h => ?_, fun h => ?_⟩
  · have h := of_decide_eq_true h
    simpa [h] using hK
  · have h := of_decide_eq_false h
    have : ¬ lo ≤ n := h
    simpa [this] using hK

end Go.Proofs.Ytkadckhealbdaaa

/- The reading of spec_l01Edge, and its contract. No condition. -/
namespace Go.Proofs.Ytkadckhealbdaaa
open Go Go.RowKit Eng Mem
set_option linter.unusedVariables false
set_option maxRecDepth 100000
def V_spec_l01Edge (i0 : Int) (j1 : Int) (w : World) (K : Int → World → Prop) : Prop :=
  (((decide (i0 > j1)) = true → ((2 : Int) ≠ 0 ∧ K (IntKind.i64.wrap ((IntKind.i64.wrap (Int.tdiv (IntKind.i64.wrap (i0 * (IntKind.i64.wrap (i0 - (1 : Int))))) (2 : Int))) + j1)) w)) ∧ ((decide (i0 > j1)) = false → ((2 : Int) ≠ 0 ∧ K (IntKind.i64.wrap ((IntKind.i64.wrap (Int.tdiv (IntKind.i64.wrap (j1 * (IntKind.i64.wrap (j1 - (1 : Int))))) (2 : Int))) + i0)) w)))

theorem eq_spec_l01Edge (i0 : Int) (j1 : Int) (w : World) (K : Int → World → Prop) :
    W Try.prog ty (fun _ _ _ _ => False) (bodyOf Try.f128) (fnPost Try.prog Try.f128.results.toList (.one (.int .i64)) K) (frame0 [(.int .i64 i0), (.int .i64 j1)] 22) w = V_spec_l01Edge i0 j1 w K := by
  kernel_rfl

theorem body_spec_l01Edge : Try.f128.body = some (bodyOf Try.f128) := by kernel_rfl
theorem name_spec_l01Edge : (Try.f128.name == "runtime.NumGoroutine") = false := by kernel_rfl

theorem walk_spec_l01Edge (i0 : Int) (j1 : Int) {w : World} {K : Int → World → Prop} (h : V_spec_l01Edge i0 j1 w K) : Fc Try.prog 128 #[(.int .i64 i0), (.int .i64 j1)] w (.one (.int .i64)) K :=
  fn_ok follows (sound_none _) Try.func128 name_spec_l01Edge body_spec_l01Edge Try.ntmps128 [(.int .i64 i0), (.int .i64 j1)] (Eq.mpr (eq_spec_l01Edge i0 j1 w K) h)

-- uses S5Made
theorem c_spec_l01Edge {i j : Int} {w : World} {K : Int → World → Prop} (h0 : 0 ≤ i) (h1 : i ≤ 17) (k0 : 0 ≤ j) (k1 : j ≤ 17) (hK : K (num i j) w) : Fc Try.prog F_spec_l01Edge #[.int .i64 i, .int .i64 j] w (.one (.int .i64)) K := by
  refine walk_spec_l01Edge _ _ ⟨fun h => ⟨by decide, ?_⟩, fun h => ⟨by decide, ?_⟩⟩
  · have h := dec_t h
    rw [wnum k0 k1 h0 h1]
    unfold num at hK
    rwa [if_neg (by omega)] at hK
  · have h := dec_f h
    rw [wnum h0 h1 k0 k1]
    unfold num at hK
    by_cases h' : i < j
    · rwa [if_pos h'] at hK
    · have : i = j := by omega
      subst this
      rwa [if_neg h'] at hK

end Go.Proofs.Ytkadckhealbdaaa

/- The reading of spec_l01At, and its contract. No condition. -/
namespace Go.Proofs.Ytkadckhealbdaaa
open Go Go.RowKit Eng Mem
set_option linter.unusedVariables false
set_option maxRecDepth 100000
def V_spec_l01At (x0 : Value) (i1 : Int) (j2 : Int) (w : World) (K : Int → World → Prop) : Prop :=
  (Pr Try.prog (Instr.box 25 x0) w (.one .any) fun (x3_2 : Value) w_1 => (Fc Try.prog 128 #[(.int .i64 i1), (.int .i64 j2)] w_1 (.one (.int .i64)) fun (x9_4 : Int) w_3 => (QAll Try.prog (Instr.fieldAt 25 x3_2 2) .any fun (x10_5 : Value) => (QAll Try.prog (Instr.indexAt 22 x10_5 (.int .i64 x9_4)) .any fun (x11_6 : Value) => (QSub Try.prog (Instr.loadAt 5 x11_6) w_3 (.int .u8) fun (x12_7 : Int) => (QAll Try.prog (convert 5 2 (.int .u8 x12_7)) (.int .i64) fun (x13_8 : Int) => K x13_8 w_3))))))

theorem eq_spec_l01At (x0 : Value) (i1 : Int) (j2 : Int) (w : World) (K : Int → World → Prop) :
    W Try.prog ty (fun _ _ _ _ => False) (bodyOf Try.f118) (fnPost Try.prog Try.f118.results.toList (.one (.int .i64)) K) (frame0 [x0, (.int .i64 i1), (.int .i64 j2)] 14) w = V_spec_l01At x0 i1 j2 w K := by
  kernel_rfl

theorem body_spec_l01At : Try.f118.body = some (bodyOf Try.f118) := by kernel_rfl
theorem name_spec_l01At : (Try.f118.name == "runtime.NumGoroutine") = false := by kernel_rfl

theorem walk_spec_l01At (x0 : Value) (i1 : Int) (j2 : Int) {w : World} {K : Int → World → Prop} (h : V_spec_l01At x0 i1 j2 w K) : Fc Try.prog 118 #[x0, (.int .i64 i1), (.int .i64 j2)] w (.one (.int .i64)) K :=
  fn_ok follows (sound_none _) Try.func118 name_spec_l01At body_spec_l01At Try.ntmps118 [x0, (.int .i64 i1), (.int .i64 j2)] (Eq.mpr (eq_spec_l01At x0 i1 j2 w K) h)

-- uses S5Made
theorem c_spec_l01At {c : Col} {i j : Int} {w : World} {K : Int → World → Prop} (hc : c.Ok) (h0 : 0 ≤ i) (h1 : i < 17) (k0 : 0 ≤ j) (k1 : j < 17) (hne : i ≠ j) (hK : ∀ w', Below w.heap.size w w' → K (c.e (num i j).toNat) w') :
    Fc Try.prog F_spec_l01At #[c.val, .int .i64 i, .int .i64 j] w (.one (.int .i64)) K := by
  have hn := num_lt h0 h1 k0 k1 (Int.le_refl _) hne
  rw [show edgesOf 17 = 136 from by decide] at hn
  have hbd := hc.e_bd (num i j).toNat
  exact walk_spec_l01At _ _ _ (col_box fun b w1 n1 hx => c_spec_l01Edge h0 (by omega) k0 (by omega) (col_e hc hx hn.1 hn.2 (u8_int hbd.1 hbd.2 (hK w1 n1.below))))

end Go.Proofs.Ytkadckhealbdaaa

/- The reading of spec_l01Around, and its contract. No condition. -/
namespace Go.Proofs.Ytkadckhealbdaaa
open Go Go.RowKit Eng Mem
set_option linter.unusedVariables false
set_option maxRecDepth 100000
def B_spec_l01Around_3 (i1 : Int) (c2 : Int) (x3 : Value) (set7 : Int) (j8 : Int) (N : (Int × Int × Value) → (Int × Int) → World → Prop) (D0 : (Int × Unit) → World → Prop) (w : World) : Prop :=
  (QAll Try.prog (Instr.fieldAt 25 x3 0) .any fun (x10_3 : Value) => (QSub Try.prog (Instr.loadAt 2 x10_3) w (.int .i64) fun (x11_4 : Int) => (((decide (j8 < x11_4)) = true → (((j8 != i1) = true → (QSub Try.prog (Instr.loadAt 25 x3) w .any fun (x19_5 : Value) => (Fc Try.prog 118 #[x19_5, (.int .i64 i1), (.int .i64 j8)] w (.one (.int .i64)) fun (x22_7 : Int) w_6 => (((x22_7 == c2) = true → (QAll Try.prog (convert 2 102 (.int .i64 j8)) (.int .u64) fun (x28_8 : Int) => (0 ≤ x28_8 ∧ N (i1, c2, (x3 : Value)) ((IntKind.i64.wrap ((BitVec.toNat (BitVec.ofInt (IntKind.bits .i64) set7 ||| BitVec.ofInt (IntKind.bits .i64) (IntKind.i64.wrap ((1 : Int) * 2 ^ min (Int.toNat x28_8) 64))) : Nat))), (IntKind.i64.wrap (j8 + (1 : Int)))) w_6))) ∧ ((x22_7 == c2) = false → N (i1, c2, (x3 : Value)) (set7, (IntKind.i64.wrap (j8 + (1 : Int)))) w_6))))) ∧ ((j8 != i1) = false → N (i1, c2, (x3 : Value)) (set7, (IntKind.i64.wrap (j8 + (1 : Int)))) w))) ∧ ((decide (j8 < x11_4)) = false → D0 (set7, ()) w))))

abbrev L_spec_l01Around_3_e0 : List Slot := [.junk, .junk, .junk, .junk, .junk, .junk, .junk, .k (.int .i64), .junk, .junk, .junk, .junk, .junk, .junk, .junk, .junk, .junk, .junk, .junk, .junk, .junk, .junk, .junk, .junk, .junk, .junk, .junk, .junk, .junk, .junk, .junk, .junk]

abbrev L_spec_l01Around_3_sp : List Slot := [.junk, .k (.int .i64), .k (.int .i64), .k .any, .junk, .junk, .junk, .k (.int .i64), .k (.int .i64), .junk, .junk, .junk, .junk, .junk, .junk, .junk, .junk, .junk, .junk, .junk, .junk, .junk, .junk, .junk, .junk, .junk, .junk, .junk, .junk, .junk, .junk, .junk]
abbrev L_spec_l01Around_3_ex : List (Nat × List Slot) := [(0, L_spec_l01Around_3_e0)]
abbrev L_spec_l01Around_3_rt : List Slot := [.junk, .junk, .junk, .junk, .junk, .junk, .junk, .junk, .junk, .junk, .junk, .junk, .junk, .junk, .junk, .junk, .junk, .junk, .junk, .junk, .junk, .junk, .junk, .junk, .junk, .junk, .junk, .junk, .junk, .junk, .junk, .junk]

def L_spec_l01Around_3_b (Φ : Post) (u : (Int × Int × Value)) (N : (Int × Int × Value) → (Int × Int) → World → Prop) (s : (Int × Int)) (w : World) : Prop :=
  B_spec_l01Around_3 u.1 u.2.1 u.2.2 s.1 s.2 N (fun v w => ∀ j : Nat → Value, Φ (.exit 0) (mkT j 0 L_spec_l01Around_3_e0 v) w) w

theorem L_spec_l01Around_3_eq (j : Nat → Value) (u : (Int × Int × Value)) (s : (Int × Int)) (N : (Int × Int × Value) → (Int × Int) → World → Prop) (D0 : (Int × Unit) → World → Prop) (R : (Unit) → World → Prop) (w : World) :
    W Try.prog ty (fun _ _ _ _ => False) (loopAt Try.f117 3) (loopPost L_spec_l01Around_3_sp [(0, (⟨L_spec_l01Around_3_e0, D0⟩ : Door))] ⟨L_spec_l01Around_3_rt, R⟩ (fun v w => N ((fun v => (v.1, v.2.1, v.2.2.1)) v) ((fun v => (v.2.2.2.1, v.2.2.2.2.1)) v) w)) (mkT j 0 L_spec_l01Around_3_sp ((fun u s => (u.1, u.2.1, u.2.2, s.1, s.2, ())) u s)) w =
    B_spec_l01Around_3 u.1 u.2.1 u.2.2 s.1 s.2 N D0 w := by
  kernel_rfl

def O_spec_l01Around_1 : Code → Post → List SV → World → Prop :=
  orc 3 (loopAt Try.f117 3) L_spec_l01Around_3_sp (fun Φ fr w => LOOP (U := (Int × Int × Value)) (S := (Int × Int)) ((fun v => (v.1, v.2.1, v.2.2.1)) (extT L_spec_l01Around_3_sp fr)) (L_spec_l01Around_3_b Φ ((fun v => (v.1, v.2.1, v.2.2.1)) (extT L_spec_l01Around_3_sp fr))) ((fun v => (v.2.2.2.1, v.2.2.2.2.1)) (extT L_spec_l01Around_3_sp fr)) w) (fun _ _ _ _ => False)

theorem O_spec_l01Around_1_ok : Sound Try.prog O_spec_l01Around_1 :=
  orc_ok (sound_none _) fun Φ fr w hs h => loop_ok (ty := ty) follows (sound_none _) L_spec_l01Around_3_sp (fun v => (v.1, v.2.1, v.2.2.1)) (fun v => (v.2.2.2.1, v.2.2.2.2.1)) (fun u s => (u.1, u.2.1, u.2.2, s.1, s.2, ())) (fun _ => rfl) L_spec_l01Around_3_ex L_spec_l01Around_3_rt (body := L_spec_l01Around_3_b Φ) (fun j u s w N hb => by
    have e := L_spec_l01Around_3_eq j u s N (doorOf Φ (.exit 0) L_spec_l01Around_3_e0).D (doorOf Φ .ret L_spec_l01Around_3_rt).D w
    exact Eq.mpr e hb) hs h

def V_spec_l01Around (x0 : Value) (i1 : Int) (c2 : Int) (w : World) (K : Int → World → Prop) : Prop :=
  (Pr Try.prog (Instr.box 25 x0) w (.one .any) fun (x3_2 : Value) w_1 => (At (loopAt Try.f117 3) (loopAt Try.f117 3) (LOOP (U := (Int × Int × Value)) (S := (Int × Int)) (i1, c2, (x3_2 : Value)) (fun N_12 s_13 w_14 => B_spec_l01Around_3 i1 c2 (x3_2 : Value) s_13.1 s_13.2 N_12 (fun (v_9 : (Int × Unit)) w_10 => ∀ _j_11 : Nat → Value, K v_9.1 w_10) w_14) ((0 : Int), (0 : Int)) w_1)))

theorem eq_spec_l01Around (x0 : Value) (i1 : Int) (c2 : Int) (w : World) (K : Int → World → Prop) :
    W Try.prog ty O_spec_l01Around_1 (bodyOf Try.f117) (fnPost Try.prog Try.f117.results.toList (.one (.int .i64)) K) (frame0 [x0, (.int .i64 i1), (.int .i64 c2)] 32) w = V_spec_l01Around x0 i1 c2 w K := by
  kernel_rfl

theorem body_spec_l01Around : Try.f117.body = some (bodyOf Try.f117) := by kernel_rfl
theorem name_spec_l01Around : (Try.f117.name == "runtime.NumGoroutine") = false := by kernel_rfl

theorem walk_spec_l01Around (x0 : Value) (i1 : Int) (c2 : Int) {w : World} {K : Int → World → Prop} (h : V_spec_l01Around x0 i1 c2 w K) : Fc Try.prog 117 #[x0, (.int .i64 i1), (.int .i64 c2)] w (.one (.int .i64)) K :=
  fn_ok follows O_spec_l01Around_1_ok Try.func117 name_spec_l01Around body_spec_l01Around Try.ntmps117 [x0, (.int .i64 i1), (.int .i64 c2)] (Eq.mpr (eq_spec_l01Around x0 i1 c2 w K) h)

-- uses S8Deg
-- uses S7Dig
theorem wshl {j : Int} (h0 : 0 ≤ j) (h1 : j < 62) : IntKind.i64.wrap (1 * 2 ^ min (Int.toNat j) 64) = ((2 ^ j.toNat : Nat) : Int) := by
  have e : ((2 : Int) ^ j.toNat) = ((2 ^ j.toNat : Nat) : Int) := by simp
  have : 2 ^ j.toNat ≤ 2 ^ 61 := Nat.pow_le_pow_right (by omega) (by omega)
  rw [Nat.min_eq_left (by omega), Int.one_mul, e]
  generalize 2 ^ j.toNat = t at this
  exact wrap_small (by omega) (by omega)
theorem c_spec_l01Around {c : Col} {i col : Int} {w : World} {K : Int → World → Prop} (hc : c.Ok) (h0 : 0 ≤ i) (h1 : i < 17) (n1 : c.n ≤ 17) (hK : ∀ w', Below w.heap.size w w' → K (bitsN (fun j => joinB c i j col) c.n.toNat : Nat) w') :
    Fc Try.prog F_spec_l01Around #[c.val, .int .i64 i, .int .i64 col] w (.one (.int .i64)) K := by
  refine walk_spec_l01Around _ _ _ (col_box fun b w1 m1 hx => ?_)
  have q1 := m1.below
  refine lp (fun s w' => Below w1.heap.size w1 w' ∧ ∃ j : Nat, s.2 = j ∧ j ≤ c.n.toNat ∧ s.1 = (bitsN (fun j => joinB c i j col) j : Nat)) (fun s _ => (17 - s.2).toNat) ⟨Below.refl _ _, 0, rfl, by omega, by simp [bitsN]⟩ ?_
  rintro ⟨a, t⟩ w2 N ⟨q2, j, hj, hjn, ha⟩ hN
  simp only at hj ha
  subst hj; subst ha
  unfold B_spec_l01Around_3
  dsimp only
  have hx2 := hx.keep q2
  refine col_n hx2 ⟨fun h => ?_, fun h => ?_⟩
  · have h := dec_t h
    have hlt := bitsN_lt (fun j => joinB c i j col) j
    have hp : 2 ^ j ≤ 2 ^ 17 := Nat.pow_le_pow_right (by omega) (by omega)
    have hs : bitsN (fun j => joinB c i j col) (j + 1) = bitsN (fun j => joinB c i j col) j + if joinB c i j col then 2 ^ j else 0 := rfl
    have no : joinB c i j col = false → ∀ w', Below w1.heap.size w1 w' → N (i, col, ptr b 0) (((bitsN (fun j => joinB c i j col) j : Nat) : Int), IntKind.i64.wrap ((j : Int) + 1)) w' := fun hf w' hb => by
      rw [wrap_small (by omega) (by omega)]
      refine hN _ _ ⟨hb, j + 1, by simp only; omega, by omega, ?_⟩ (by simp only; omega)
      simp only [hs, hf]
      simp
    refine ⟨fun hne => ?_, fun he => ?_⟩
    · have hne := ne_t hne
      refine col_all hc hx2 (c_spec_l01At hc h0 h1 (by omega) (by omega) (Ne.symm hne) fun w3 hb3 => ?_)
      have q3 := q2.trans (hb3.mono q2.size)
      refine ⟨fun hcol => ?_, fun hcol => ?_⟩
      · have hcol := eq_t hcol
        have hyes : joinB c i j col = true := by simp only [joinB, decide_eq_true_eq]; exact ⟨Ne.symm hne, hcol⟩
        refine int_u64 (by omega) (by omega) ⟨by omega, ?_⟩
        have hor := bitsN_or hlt
        rw [wshl (by omega) (by omega), Int.toNat_natCast]
        generalize 2 ^ j = T at hs hlt hp hor ⊢
        rw [wor (by omega) (by omega) (by omega) (by omega), wrap_small (n := (j : Int) + 1) (by omega) (by omega)]
        refine hN _ _ ⟨q3, j + 1, by simp only; omega, by omega, ?_⟩ (by simp only; omega)
        simp only [hs, hyes, if_true, Int.toNat_natCast, hor]
      · exact no (by simp only [joinB, decide_eq_false_iff_not]; exact fun hh => eq_f hcol hh.2) w3 q3
    · exact no (by simp only [joinB, decide_eq_false_iff_not]; exact fun hh => hh.1 (ne_f he).symm) w2 q2
  · have h := dec_f h
    intro _
    have : j = c.n.toNat := by omega
    subst this
    exact hK w2 (q1.trans (q2.mono q1.size))

end Go.Proofs.Ytkadckhealbdaaa

/- The reading of spec_l01Ones, and its contract. No condition. -/
namespace Go.Proofs.Ytkadckhealbdaaa
open Go Go.RowKit Eng Mem
set_option linter.unusedVariables false
set_option maxRecDepth 100000
def B_spec_l01Ones_2 (n0 : Int) (count3 : Int) (N : Unit → (Int × Int) → World → Prop) (D0 : (Int × Unit) → World → Prop) (w : World) : Prop :=
  (((decide (n0 > (0 : Int))) = true → ((2 : Int) ≠ 0 ∧ ((2 : Int) ≠ 0 ∧ N () ((IntKind.i64.wrap (Int.tdiv n0 (2 : Int))), (IntKind.i64.wrap (count3 + (Int.tmod n0 (2 : Int))))) w))) ∧ ((decide (n0 > (0 : Int))) = false → D0 (count3, ()) w))

abbrev L_spec_l01Ones_2_e0 : List Slot := [.junk, .junk, .junk, .k (.int .i64), .junk, .junk, .junk, .junk, .junk, .junk, .junk, .junk, .junk]

abbrev L_spec_l01Ones_2_sp : List Slot := [.k (.int .i64), .junk, .junk, .k (.int .i64), .junk, .junk, .junk, .junk, .junk, .junk, .junk, .junk, .junk]
abbrev L_spec_l01Ones_2_ex : List (Nat × List Slot) := [(0, L_spec_l01Ones_2_e0)]
abbrev L_spec_l01Ones_2_rt : List Slot := [.junk, .junk, .junk, .junk, .junk, .junk, .junk, .junk, .junk, .junk, .junk, .junk, .junk]

def L_spec_l01Ones_2_b (Φ : Post) (u : Unit) (N : Unit → (Int × Int) → World → Prop) (s : (Int × Int)) (w : World) : Prop :=
  B_spec_l01Ones_2 s.1 s.2 N (fun v w => ∀ j : Nat → Value, Φ (.exit 0) (mkT j 0 L_spec_l01Ones_2_e0 v) w) w

theorem L_spec_l01Ones_2_eq (j : Nat → Value) (u : Unit) (s : (Int × Int)) (N : Unit → (Int × Int) → World → Prop) (D0 : (Int × Unit) → World → Prop) (R : (Unit) → World → Prop) (w : World) :
    W Try.prog ty (fun _ _ _ _ => False) (loopAt Try.f116 2) (loopPost L_spec_l01Ones_2_sp [(0, (⟨L_spec_l01Ones_2_e0, D0⟩ : Door))] ⟨L_spec_l01Ones_2_rt, R⟩ (fun v w => N ((fun v => ()) v) ((fun v => (v.1, v.2.1)) v) w)) (mkT j 0 L_spec_l01Ones_2_sp ((fun u s => (s.1, s.2, ())) u s)) w =
    B_spec_l01Ones_2 s.1 s.2 N D0 w := by
  kernel_rfl

def O_spec_l01Ones_1 : Code → Post → List SV → World → Prop :=
  orc 2 (loopAt Try.f116 2) L_spec_l01Ones_2_sp (fun Φ fr w => LOOP (U := Unit) (S := (Int × Int)) ((fun v => ()) (extT L_spec_l01Ones_2_sp fr)) (L_spec_l01Ones_2_b Φ ((fun v => ()) (extT L_spec_l01Ones_2_sp fr))) ((fun v => (v.1, v.2.1)) (extT L_spec_l01Ones_2_sp fr)) w) (fun _ _ _ _ => False)

theorem O_spec_l01Ones_1_ok : Sound Try.prog O_spec_l01Ones_1 :=
  orc_ok (sound_none _) fun Φ fr w hs h => loop_ok (ty := ty) follows (sound_none _) L_spec_l01Ones_2_sp (fun v => ()) (fun v => (v.1, v.2.1)) (fun u s => (s.1, s.2, ())) (fun _ => rfl) L_spec_l01Ones_2_ex L_spec_l01Ones_2_rt (body := L_spec_l01Ones_2_b Φ) (fun j u s w N hb => by
    have e := L_spec_l01Ones_2_eq j u s N (doorOf Φ (.exit 0) L_spec_l01Ones_2_e0).D (doorOf Φ .ret L_spec_l01Ones_2_rt).D w
    exact Eq.mpr e hb) hs h

def V_spec_l01Ones (n0 : Int) (w : World) (K : Int → World → Prop) : Prop :=
  (At (loopAt Try.f116 2) (loopAt Try.f116 2) (LOOP (U := Unit) (S := (Int × Int)) () (fun N_4 s_5 w_6 => B_spec_l01Ones_2 s_5.1 s_5.2 N_4 (fun (v_1 : (Int × Unit)) w_2 => ∀ _j_3 : Nat → Value, K v_1.1 w_2) w_6) (n0, (0 : Int)) w))

theorem eq_spec_l01Ones (n0 : Int) (w : World) (K : Int → World → Prop) :
    W Try.prog ty O_spec_l01Ones_1 (bodyOf Try.f116) (fnPost Try.prog Try.f116.results.toList (.one (.int .i64)) K) (frame0 [(.int .i64 n0)] 13) w = V_spec_l01Ones n0 w K := by
  kernel_rfl

theorem body_spec_l01Ones : Try.f116.body = some (bodyOf Try.f116) := by kernel_rfl
theorem name_spec_l01Ones : (Try.f116.name == "runtime.NumGoroutine") = false := by kernel_rfl

theorem walk_spec_l01Ones (n0 : Int) {w : World} {K : Int → World → Prop} (h : V_spec_l01Ones n0 w K) : Fc Try.prog 116 #[(.int .i64 n0)] w (.one (.int .i64)) K :=
  fn_ok follows O_spec_l01Ones_1_ok Try.func116 name_spec_l01Ones body_spec_l01Ones Try.ntmps116 [(.int .i64 n0)] (Eq.mpr (eq_spec_l01Ones n0 w K) h)

-- uses S8Deg
theorem c_spec_l01Ones {n : Nat} {w : World} {K : Int → World → Prop} (hn : n < 2 ^ 62) (hK : K (onesN n : Int) w) : Fc Try.prog F_spec_l01Ones #[.int .i64 (n : Int)] w (.one (.int .i64)) K := by
  refine walk_spec_l01Ones _ ?_
  have hl := onesN_le hn
  refine lp (fun s w' => w' = w ∧ ∃ m : Nat, s.1 = m ∧ m < 2 ^ 62 ∧ 0 ≤ s.2 ∧ s.2 + onesN m = onesN n) (fun s _ => s.1.toNat) ⟨rfl, n, rfl, hn, by simp, by simp⟩ ?_
  rintro ⟨a, c⟩ w' N ⟨rfl, m, hm, hm2, c0, hc⟩ hN
  simp only at hm c0 hc
  subst hm
  unfold B_spec_l01Ones_2
  dsimp only
  refine ⟨fun h => ⟨by decide, by decide, ?_⟩, fun h => ?_⟩
  · have h := dec_t h
    have hs := onesN_step m
    rw [show Int.tdiv (m : Int) 2 = ((m / 2 : Nat) : Int) from by rw [Int.tdiv_eq_ediv_of_nonneg (by omega)]; omega, show Int.tmod (m : Int) 2 = ((m % 2 : Nat) : Int) from by rw [Int.tmod_eq_emod_of_nonneg (by omega)]; omega,
      wrap_small (n := ((m / 2 : Nat) : Int)) (by omega) (by omega), wrap_small (by omega) (by omega)]
    exact hN _ _ ⟨rfl, m / 2, rfl, by omega, by simp only; omega, by simp only; omega⟩ (by simp only; omega)
  · have h := dec_f h
    have : m = 0 := by omega
    subst this
    intro _
    rw [show c = (onesN n : Int) from by have : onesN 0 = 0 := by simp [onesN]
                                         omega]
    exact hK

end Go.Proofs.Ytkadckhealbdaaa

/- The reading of spec_l03Clique, and its contract. No condition. -/
namespace Go.Proofs.Ytkadckhealbdaaa
open Go Go.RowKit Eng Mem
set_option linter.unusedVariables false
set_option maxRecDepth 100000
def B_spec_l03Clique_6 (c1 : Int) (m3 : Int) (x4 : Value) (set2 : Int) (i9 : Int) (N : (Int × Int × Value) → (Int × Int) → World → Prop) (D0 : (Unit) → World → Prop) (R : (Bool × Unit) → World → Prop) (w : World) : Prop :=
  (QAll Try.prog (Instr.fieldAt 25 x4 0) .any fun (x17_5 : Value) => (QSub Try.prog (Instr.loadAt 2 x17_5) w (.int .i64) fun (x18_6 : Int) => (((decide (i9 < x18_6)) = true → (QAll Try.prog (convert 2 102 (.int .i64 i9)) (.int .u64) fun (x24_7 : Int) => (0 ≤ x24_7 ∧ ((((IntKind.i64.wrap ((BitVec.toNat (BitVec.ofInt (IntKind.bits .i64) (Int.fdiv set2 (2 ^ min (Int.toNat x24_7) 64)) &&& BitVec.ofInt (IntKind.bits .i64) (1 : Int)) : Nat))) == (0 : Int)) = true → N (c1, m3, (x4 : Value)) (set2, (IntKind.i64.wrap (i9 + (1 : Int)))) w) ∧ (((IntKind.i64.wrap ((BitVec.toNat (BitVec.ofInt (IntKind.bits .i64) (Int.fdiv set2 (2 ^ min (Int.toNat x24_7) 64)) &&& BitVec.ofInt (IntKind.bits .i64) (1 : Int)) : Nat))) == (0 : Int)) = false → (QAll Try.prog (convert 2 102 (.int .i64 i9)) (.int .u64) fun (x30_8 : Int) => (0 ≤ x30_8 ∧ (∀ w_9, Drew w w_9 → (QSub Try.prog (Instr.loadAt 25 x4) w_9 .any fun (x33_10 : Value) => (QSub Try.prog (Instr.loadAt 25 x4) w_9 .any fun (x36_11 : Value) => (Fc Try.prog 117 #[x36_11, (.int .i64 i9), (.int .i64 c1)] w_9 (.one (.int .i64)) fun (x39_13 : Int) w_12 => (Keeps w_9 w_12 ((Fc Try.prog 105 #[x33_10, (.int .i64 c1), (.int .i64 (IntKind.i64.wrap ((BitVec.toNat (BitVec.ofInt (IntKind.bits .i64) (IntKind.i64.wrap (set2 - (IntKind.i64.wrap ((1 : Int) * 2 ^ min (Int.toNat x30_8) 64)))) &&& BitVec.ofInt (IntKind.bits .i64) x39_13) : Nat)))), (.int .i64 (IntKind.i64.wrap (m3 - (1 : Int))))] w_12 (.one .bool) fun (x43_15 : Bool) w_14 => (Keeps w_9 w_14 (((x43_15 = true → R (true, ()) w_14) ∧ (x43_15 = false → N (c1, m3, (x4 : Value)) ((IntKind.i64.wrap (set2 - (IntKind.i64.wrap ((1 : Int) * 2 ^ min (Int.toNat x30_8) 64)))), (IntKind.i64.wrap (i9 + (1 : Int)))) w_14)))))))))))))))))) ∧ ((decide (i9 < x18_6)) = false → D0 () w))))

abbrev L_spec_l03Clique_6_e0 : List Slot := [.junk, .junk, .junk, .junk, .junk, .junk, .junk, .junk, .junk, .junk, .junk, .junk, .junk, .junk, .junk, .junk, .junk, .junk, .junk, .junk, .junk, .junk, .junk, .junk, .junk, .junk, .junk, .junk, .junk, .junk, .junk, .junk, .junk, .junk, .junk, .junk, .junk, .junk, .junk, .junk, .junk, .junk, .junk, .junk]

abbrev L_spec_l03Clique_6_sp : List Slot := [.junk, .k (.int .i64), .k (.int .i64), .k (.int .i64), .k .any, .junk, .junk, .junk, .junk, .k (.int .i64), .junk, .junk, .junk, .junk, .junk, .junk, .junk, .junk, .junk, .junk, .junk, .junk, .junk, .junk, .junk, .junk, .junk, .junk, .junk, .junk, .junk, .junk, .junk, .junk, .junk, .junk, .junk, .junk, .junk, .junk, .junk, .junk, .junk, .junk]
abbrev L_spec_l03Clique_6_ex : List (Nat × List Slot) := [(0, L_spec_l03Clique_6_e0)]
abbrev L_spec_l03Clique_6_rt : List Slot := [.junk, .junk, .junk, .junk, .junk, .junk, .junk, .junk, .k .bool, .junk, .junk, .junk, .junk, .junk, .junk, .junk, .junk, .junk, .junk, .junk, .junk, .junk, .junk, .junk, .junk, .junk, .junk, .junk, .junk, .junk, .junk, .junk, .junk, .junk, .junk, .junk, .junk, .junk, .junk, .junk, .junk, .junk, .junk, .junk]

def L_spec_l03Clique_6_b (Φ : Post) (u : (Int × Int × Value)) (N : (Int × Int × Value) → (Int × Int) → World → Prop) (s : (Int × Int)) (w : World) : Prop :=
  B_spec_l03Clique_6 u.1 u.2.1 u.2.2 s.1 s.2 N (fun v w => ∀ j : Nat → Value, Φ (.exit 0) (mkT j 0 L_spec_l03Clique_6_e0 v) w) (fun v w => ∀ j : Nat → Value, Φ .ret (mkT j 0 L_spec_l03Clique_6_rt v) w) w

theorem L_spec_l03Clique_6_eq (j : Nat → Value) (u : (Int × Int × Value)) (s : (Int × Int)) (N : (Int × Int × Value) → (Int × Int) → World → Prop) (D0 : (Unit) → World → Prop) (R : (Bool × Unit) → World → Prop) (w : World) :
    W Try.prog ty (fun _ _ _ _ => False) (loopAt Try.f105 6) (loopPost L_spec_l03Clique_6_sp [(0, (⟨L_spec_l03Clique_6_e0, D0⟩ : Door))] ⟨L_spec_l03Clique_6_rt, R⟩ (fun v w => N ((fun v => (v.1, v.2.2.1, v.2.2.2.1)) v) ((fun v => (v.2.1, v.2.2.2.2.1)) v) w)) (mkT j 0 L_spec_l03Clique_6_sp ((fun u s => (u.1, s.1, u.2.1, u.2.2, s.2, ())) u s)) w =
    B_spec_l03Clique_6 u.1 u.2.1 u.2.2 s.1 s.2 N D0 R w := by
  kernel_rfl

def O_spec_l03Clique_1 : Code → Post → List SV → World → Prop :=
  orc 6 (loopAt Try.f105 6) L_spec_l03Clique_6_sp (fun Φ fr w => LOOP (U := (Int × Int × Value)) (S := (Int × Int)) ((fun v => (v.1, v.2.2.1, v.2.2.2.1)) (extT L_spec_l03Clique_6_sp fr)) (L_spec_l03Clique_6_b Φ ((fun v => (v.1, v.2.2.1, v.2.2.2.1)) (extT L_spec_l03Clique_6_sp fr))) ((fun v => (v.2.1, v.2.2.2.2.1)) (extT L_spec_l03Clique_6_sp fr)) w) (fun _ _ _ _ => False)

theorem O_spec_l03Clique_1_ok : Sound Try.prog O_spec_l03Clique_1 :=
  orc_ok (sound_none _) fun Φ fr w hs h => loop_ok (ty := ty) follows (sound_none _) L_spec_l03Clique_6_sp (fun v => (v.1, v.2.2.1, v.2.2.2.1)) (fun v => (v.2.1, v.2.2.2.2.1)) (fun u s => (u.1, s.1, u.2.1, u.2.2, s.2, ())) (fun _ => rfl) L_spec_l03Clique_6_ex L_spec_l03Clique_6_rt (body := L_spec_l03Clique_6_b Φ) (fun j u s w N hb => by
    have e := L_spec_l03Clique_6_eq j u s N (doorOf Φ (.exit 0) L_spec_l03Clique_6_e0).D (doorOf Φ .ret L_spec_l03Clique_6_rt).D w
    exact Eq.mpr e hb) hs h

def V_spec_l03Clique (x0 : Value) (c1 : Int) (set2 : Int) (m3 : Int) (w : World) (K : Bool → World → Prop) : Prop :=
  (Pr Try.prog (Instr.box 25 x0) w (.one .any) fun (x4_2 : Value) w_1 => (((m3 == (0 : Int)) = true → K true w_1) ∧ ((m3 == (0 : Int)) = false → (Fc Try.prog 116 #[(.int .i64 set2)] w_1 (.one (.int .i64)) fun (x13_4 : Int) w_3 => (((decide (x13_4 < m3)) = true → K false w_3) ∧ ((decide (x13_4 < m3)) = false → (At (loopAt Try.f105 6) (loopAt Try.f105 6) (LOOP (U := (Int × Int × Value)) (S := (Int × Int)) (c1, m3, (x4_2 : Value)) (fun N_22 s_23 w_24 => B_spec_l03Clique_6 c1 m3 (x4_2 : Value) s_23.1 s_23.2 N_22 (fun (v_16 : (Unit)) w_17 => ∀ _j_18 : Nat → Value, K false w_17) (fun (v_19 : (Bool × Unit)) w_20 => ∀ _j_21 : Nat → Value, K v_19.1 w_20) w_24) (set2, (0 : Int)) w_3))))))))

theorem eq_spec_l03Clique (x0 : Value) (c1 : Int) (set2 : Int) (m3 : Int) (w : World) (K : Bool → World → Prop) :
    W Try.prog ty O_spec_l03Clique_1 (bodyOf Try.f105) (fnPost Try.prog Try.f105.results.toList (.one .bool) K) (frame0 [x0, (.int .i64 c1), (.int .i64 set2), (.int .i64 m3)] 44) w = V_spec_l03Clique x0 c1 set2 m3 w K := by
  kernel_rfl

theorem body_spec_l03Clique : Try.f105.body = some (bodyOf Try.f105) := by kernel_rfl
theorem name_spec_l03Clique : (Try.f105.name == "runtime.NumGoroutine") = false := by kernel_rfl

theorem walk_spec_l03Clique (x0 : Value) (c1 : Int) (set2 : Int) (m3 : Int) {w : World} {K : Bool → World → Prop} (h : V_spec_l03Clique x0 c1 set2 m3 w K) : Fc Try.prog 105 #[x0, (.int .i64 c1), (.int .i64 set2), (.int .i64 m3)] w (.one .bool) K :=
  fn_ok follows O_spec_l03Clique_1_ok Try.func105 name_spec_l03Clique body_spec_l03Clique Try.ntmps105 [x0, (.int .i64 c1), (.int .i64 set2), (.int .i64 m3)] (Eq.mpr (eq_spec_l03Clique x0 c1 set2 m3 w K) h)

-- uses S9CirM
theorem c_spec_l03Clique {x : Col} {c : Int} (hx : x.Ok) (n0 : 0 ≤ x.n) (n1 : x.n ≤ 17) :
    ∀ (m s : Nat) (w : World) (K : Bool → World → Prop), s < 2 ^ x.n.toNat → m ≤ 1000 → (∀ w', Below w.heap.size w w' → K (clqF (adjC x c) x.n.toNat m s.testBit) w') →
      Fc Try.prog F_spec_l03Clique #[x.val, .int .i64 c, .int .i64 (s : Int), .int .i64 (m : Int)] w (.one .bool) K
  | m, s, w, K, hs, hm, hK => by
    have hp17 : 2 ^ x.n.toNat ≤ 2 ^ 17 := Nat.pow_le_pow_right (by omega) (by omega)
    refine walk_spec_l03Clique _ _ _ _ (col_box fun b w1 m1 ax => ⟨fun h => ?_, fun h => ?_⟩)
    · have h := eq_t h
      have : m = 0 := by omega
      subst this
      exact hK w1 m1.below
    have h := eq_f h
    match m, hm, hK, h with
    | 0, _, _, h => exact absurd rfl h
    | m + 1, hm, hK, _ =>
    refine c_spec_l01Ones (by omega) ⟨fun h2 => ?_, fun _ => ?_⟩
    · have h2 := dec_t h2
      have := hK w1 m1.below
      rwa [show clqF (adjC x c) x.n.toNat (m + 1) s.testBit = false from by
        rw [Bool.eq_false_iff]
        intro hc
        have h3 := clqF_card _ hc
        rw [← onesN_bits, bitsN_of hs] at h3
        omega] at this
    have q1 := m1.below
    refine lp (fun t w' => Below w1.heap.size w1 w' ∧ ∃ i : Nat, t.2 = i ∧ i ≤ x.n.toNat ∧ t.1 = (bitsN (fromS s i) x.n.toNat : Nat) ∧ ∀ k, k < i → clqG (adjC x c) x.n.toNat m s.testBit k = false) (fun t _ => (17 - t.2).toNat)
      ⟨Below.refl _ _, 0, rfl, by omega, by simp only [fromS_0 hs], fun k hk => absurd hk (by omega)⟩ ?_
    rintro ⟨u, t⟩ w2 N ⟨q2, i, hi, hin, hu, hall⟩ hN
    simp only at hi hu
    subst hi; subst hu
    unfold B_spec_l03Clique_6
    dsimp only
    have q02 := q1.trans (q2.mono q1.size)
    have hbl := bitsN_lt (fromS s i) x.n.toNat
    refine col_n (ax.keep q2) ⟨fun hlt => ?_, fun hge => ?_⟩
    · have hlt := dec_t hlt
      refine int_u64 (by omega) (by omega) ⟨by omega, ?_⟩
      rw [wshr (by omega) (by omega), bit_iff0, testBit_bitsN]
      have e1 : (decide (i < x.n.toNat) && fromS s i i) = s.testBit i := by simp [fromS, show i < x.n.toNat by omega]
      rw [e1]
      refine ⟨fun hno => ?_, fun hyes => int_u64 (by omega) (by omega) ⟨by omega, ?_⟩⟩
      · have hno := not_t hno
        rw [wrap_small (by omega) (by omega)]
        refine hN _ _ ⟨q2, i + 1, by simp only; omega, by omega, by simp only [fromS_no hno], fun k hk => ?_⟩ (by simp only; omega)
        by_cases hki : k < i
        · exact hall k hki
        · have : k = i := by omega
          subst this
          simp [clqG, hno]
      have hyes := not_f hyes
      have htake := fromS_yes (s := s) (i := i) (n := x.n.toNat) hyes (by omega)
      have hbl2 := bitsN_lt (fromS s (i + 1)) x.n.toNat
      have hsub : IntKind.i64.wrap (((bitsN (fromS s i) x.n.toNat : Nat) : Int) - IntKind.i64.wrap (1 * 2 ^ min (Int.toNat (i : Int)) 64)) = ((bitsN (fromS s (i + 1)) x.n.toNat : Nat) : Int) := by
        rw [wshl' (by omega) (by omega), Int.toNat_natCast, htake]
        generalize 2 ^ i = T
        rw [wrap_small (by omega) (by omega)]
        omega
      rw [hsub]
      intro w3 hd3
      have q3 := q2.trans (hd3.below w1.heap.size)
      refine col_all hx (ax.keep q3) (col_all hx (ax.keep q3) (c_spec_l01Around hx (by omega) (by omega) n1 fun w4 q4 => ⟨q4, ?_⟩))
      have hbl3 := bitsN_lt (fun j => joinB x i j c) x.n.toNat
      rw [wand (by omega) (by omega) (by omega) (by omega), Int.toNat_natCast, Int.toNat_natCast, show IntKind.i64.wrap (((m + 1 : Nat) : Int) - 1) = (m : Int) from by rw [wrap_small (by omega) (by omega)]; omega]
      have hand : (bitsN (fromS s (i + 1)) x.n.toNat &&& bitsN (fun j => joinB x i j c) x.n.toNat) < 2 ^ x.n.toNat := Nat.lt_of_le_of_lt Nat.and_le_left hbl2
      refine c_spec_l03Clique hx n0 n1 m _ w4 _ hand (by omega) fun w5 q5 => ?_
      have hG : clqF (adjC x c) x.n.toNat m (bitsN (fromS s (i + 1)) x.n.toNat &&& bitsN (fun j => joinB x i j c) x.n.toNat).testBit = clqG (adjC x c) x.n.toNat m s.testBit i := by
        unfold clqG
        rw [hyes, Bool.true_and]
        refine clqF_congr fun j hj => ?_
        rw [Nat.testBit_and, testBit_bitsN, testBit_bitsN]
        simp only [hj, decide_true, Bool.true_and, fromS, adjC]
        rw [Bool.and_assoc]
        rfl
      rw [hG]
      have q45 := q4.trans (q5.mono q4.size)
      refine ⟨q45, fun hy => ?_, fun hn => ?_⟩
      · intro _
        have := hK w5 (q1.trans ((q3.trans (q45.mono q3.size)).mono q1.size))
        rwa [clqF_yes (by omega) hy] at this
      · rw [wrap_small (by omega) (by omega)]
        refine hN _ _ ⟨q3.trans (q45.mono q3.size), i + 1, by simp only; omega, by omega, rfl, fun k hk => ?_⟩ (by simp only; omega)
        by_cases hki : k < i
        · exact hall k hki
        · have : k = i := by omega
          subst this
          exact hn
    · have hge := dec_f hge
      have : i = x.n.toNat := by omega
      subst this
      intro _
      have := hK w2 q02
      rwa [clqF_no hall] at this

end Go.Proofs.Ytkadckhealbdaaa

/- The reading of spec_l05Avoids, and its contract. No condition. -/
namespace Go.Proofs.Ytkadckhealbdaaa
open Go Go.RowKit Eng Mem
set_option linter.unusedVariables false
set_option maxRecDepth 100000
def B_spec_l05Avoids_2 (sizes1 : Value) (x2 : Value) (c5 : Int) (N : (Value × Value) → Int → World → Prop) (D0 : (Unit) → World → Prop) (R : (Bool × Unit) → World → Prop) (w : World) : Prop :=
  (QAll Try.prog (Instr.fieldAt 25 x2 1) .any fun (x7_3 : Value) => (QSub Try.prog (Instr.loadAt 2 x7_3) w (.int .i64) fun (x8_4 : Int) => (((decide (c5 < x8_4)) = true → (∀ w_5, Drew w w_5 → (QSub Try.prog (Instr.loadAt 25 x2) w_5 .any fun (x12_6 : Value) => (QAll Try.prog (Instr.fieldAt 25 x2 0) .any fun (x14_7 : Value) => (QSub Try.prog (Instr.loadAt 2 x14_7) w_5 (.int .i64) fun (x15_8 : Int) => (QAll Try.prog (convert 2 102 (.int .i64 x15_8)) (.int .u64) fun (x16_9 : Int) => (0 ≤ x16_9 ∧ (QAll Try.prog (Instr.indexAt 31 sizes1 (.int .i64 c5)) .any fun (x21_10 : Value) => (QSub Try.prog (Instr.loadAt 2 x21_10) w_5 (.int .i64) fun (x22_11 : Int) => (Fc Try.prog 105 #[x12_6, (.int .i64 c5), (.int .i64 (IntKind.i64.wrap ((IntKind.i64.wrap ((1 : Int) * 2 ^ min (Int.toNat x16_9) 64)) - (1 : Int)))), (.int .i64 x22_11)] w_5 (.one .bool) fun (x23_13 : Bool) w_12 => (Keeps w_5 w_12 (((x23_13 = true → R (false, ()) w_12) ∧ (x23_13 = false → N ((sizes1 : Value), (x2 : Value)) (IntKind.i64.wrap (c5 + (1 : Int))) w_12)))))))))))))) ∧ ((decide (c5 < x8_4)) = false → D0 () w))))

abbrev L_spec_l05Avoids_2_e0 : List Slot := [.junk, .junk, .junk, .junk, .junk, .junk, .junk, .junk, .junk, .junk, .junk, .junk, .junk, .junk, .junk, .junk, .junk, .junk, .junk, .junk, .junk, .junk, .junk, .junk]

abbrev L_spec_l05Avoids_2_sp : List Slot := [.junk, .k .any, .k .any, .junk, .junk, .k (.int .i64), .junk, .junk, .junk, .junk, .junk, .junk, .junk, .junk, .junk, .junk, .junk, .junk, .junk, .junk, .junk, .junk, .junk, .junk]
abbrev L_spec_l05Avoids_2_ex : List (Nat × List Slot) := [(0, L_spec_l05Avoids_2_e0)]
abbrev L_spec_l05Avoids_2_rt : List Slot := [.junk, .junk, .junk, .junk, .k .bool, .junk, .junk, .junk, .junk, .junk, .junk, .junk, .junk, .junk, .junk, .junk, .junk, .junk, .junk, .junk, .junk, .junk, .junk, .junk]

def L_spec_l05Avoids_2_b (Φ : Post) (u : (Value × Value)) (N : (Value × Value) → Int → World → Prop) (s : Int) (w : World) : Prop :=
  B_spec_l05Avoids_2 u.1 u.2 s N (fun v w => ∀ j : Nat → Value, Φ (.exit 0) (mkT j 0 L_spec_l05Avoids_2_e0 v) w) (fun v w => ∀ j : Nat → Value, Φ .ret (mkT j 0 L_spec_l05Avoids_2_rt v) w) w

theorem L_spec_l05Avoids_2_eq (j : Nat → Value) (u : (Value × Value)) (s : Int) (N : (Value × Value) → Int → World → Prop) (D0 : (Unit) → World → Prop) (R : (Bool × Unit) → World → Prop) (w : World) :
    W Try.prog ty (fun _ _ _ _ => False) (loopAt Try.f75 2) (loopPost L_spec_l05Avoids_2_sp [(0, (⟨L_spec_l05Avoids_2_e0, D0⟩ : Door))] ⟨L_spec_l05Avoids_2_rt, R⟩ (fun v w => N ((fun v => (v.1, v.2.1)) v) ((fun v => v.2.2.1) v) w)) (mkT j 0 L_spec_l05Avoids_2_sp ((fun u s => (u.1, u.2, s, ())) u s)) w =
    B_spec_l05Avoids_2 u.1 u.2 s N D0 R w := by
  kernel_rfl

def O_spec_l05Avoids_1 : Code → Post → List SV → World → Prop :=
  orc 2 (loopAt Try.f75 2) L_spec_l05Avoids_2_sp (fun Φ fr w => LOOP (U := (Value × Value)) (S := Int) ((fun v => (v.1, v.2.1)) (extT L_spec_l05Avoids_2_sp fr)) (L_spec_l05Avoids_2_b Φ ((fun v => (v.1, v.2.1)) (extT L_spec_l05Avoids_2_sp fr))) ((fun v => v.2.2.1) (extT L_spec_l05Avoids_2_sp fr)) w) (fun _ _ _ _ => False)

theorem O_spec_l05Avoids_1_ok : Sound Try.prog O_spec_l05Avoids_1 :=
  orc_ok (sound_none _) fun Φ fr w hs h => loop_ok (ty := ty) follows (sound_none _) L_spec_l05Avoids_2_sp (fun v => (v.1, v.2.1)) (fun v => v.2.2.1) (fun u s => (u.1, u.2, s, ())) (fun _ => rfl) L_spec_l05Avoids_2_ex L_spec_l05Avoids_2_rt (body := L_spec_l05Avoids_2_b Φ) (fun j u s w N hb => by
    have e := L_spec_l05Avoids_2_eq j u s N (doorOf Φ (.exit 0) L_spec_l05Avoids_2_e0).D (doorOf Φ .ret L_spec_l05Avoids_2_rt).D w
    exact Eq.mpr e hb) hs h

def V_spec_l05Avoids (x0 : Value) (sizes1 : Value) (w : World) (K : Bool → World → Prop) : Prop :=
  (Pr Try.prog (Instr.box 25 x0) w (.one .any) fun (x2_2 : Value) w_1 => (At (loopAt Try.f75 2) (loopAt Try.f75 2) (LOOP (U := (Value × Value)) (S := Int) ((sizes1 : Value), (x2_2 : Value)) (fun N_20 s_21 w_22 => B_spec_l05Avoids_2 (sizes1 : Value) (x2_2 : Value) s_21 N_20 (fun (v_14 : (Unit)) w_15 => ∀ _j_16 : Nat → Value, K true w_15) (fun (v_17 : (Bool × Unit)) w_18 => ∀ _j_19 : Nat → Value, K v_17.1 w_18) w_22) (0 : Int) w_1)))

theorem eq_spec_l05Avoids (x0 : Value) (sizes1 : Value) (w : World) (K : Bool → World → Prop) :
    W Try.prog ty O_spec_l05Avoids_1 (bodyOf Try.f75) (fnPost Try.prog Try.f75.results.toList (.one .bool) K) (frame0 [x0, sizes1] 24) w = V_spec_l05Avoids x0 sizes1 w K := by
  kernel_rfl

theorem body_spec_l05Avoids : Try.f75.body = some (bodyOf Try.f75) := by kernel_rfl
theorem name_spec_l05Avoids : (Try.f75.name == "runtime.NumGoroutine") = false := by kernel_rfl

theorem walk_spec_l05Avoids (x0 : Value) (sizes1 : Value) {w : World} {K : Bool → World → Prop} (h : V_spec_l05Avoids x0 sizes1 w K) : Fc Try.prog 75 #[x0, sizes1] w (.one .bool) K :=
  fn_ok follows O_spec_l05Avoids_1_ok Try.func75 name_spec_l05Avoids body_spec_l05Avoids Try.ntmps75 [x0, sizes1] (Eq.mpr (eq_spec_l05Avoids x0 sizes1 w K) h)

-- uses S9AvoS
theorem clq_one (adj : Nat → Nat → Bool) {m : Nat} (hm : 1 ≤ m) : clqF adj 1 m (Nat.testBit 1) = decide (m = 1) := by
  by_cases h : m = 1
  · subst h
    rw [decide_eq_true rfl]
    exact clqF_yes (i := 0) (by omega) (by unfold clqG; simp [clqF])
  · rw [decide_eq_false h, Bool.eq_false_iff]
    intro hc
    have := clqF_card m hc
    have h2 : (List.range 1).countP (Nat.testBit 1) ≤ 1 := Nat.le_trans List.countP_le_length (by simp)
    omega
theorem c_spec_l05Avoids {k : Int} {a : Value} {l : List Int} {w : World} {K : Bool → World → Prop} (hk : k = l.length) (k4 : k ≤ 4) (ha : SlI w a l) (hl : AllIn l 1 17)
    (hK : ∀ w', Below w.heap.size w w' → K (!decide ((1 : Int) ∈ l)) w') : Fc Try.prog F_spec_l05Avoids #[(colE 1 k []).val, a] w (.one .bool) K := by
  have hok : (colE 1 k []).Ok := colE_ok (by omega) (by omega) (by simp) (by simp)
  refine walk_spec_l05Avoids _ _ (col_box fun b w1 m1 ax => ?_)
  have q1 := m1.below
  refine lp (fun s w' => Below w1.heap.size w1 w' ∧ ∃ c : Nat, s = c ∧ c ≤ l.length ∧ ∀ d : Nat, d < c → l.getD d 0 ≠ 1) (fun s _ => (17 - s).toNat) ⟨Below.refl _ _, 0, rfl, by omega, fun d hd => absurd hd (by omega)⟩ ?_
  rintro t w2 N ⟨q2, c, hc, hcl, hall⟩ hN
  subst hc
  unfold B_spec_l05Avoids_2
  refine col_k (ax.keep q2) ⟨fun hlt => ?_, fun hge => ?_⟩
  · have hlt : (c : Int) < k := dec_t hlt
    intro w3 hd3
    have q3 := q2.trans (hd3.below w1.heap.size)
    have hin := hl.get (i := c) (by omega)
    have hn1 : (colE 1 k []).n = 1 := rfl
    refine col_all hok (ax.keep q3) (col_n (ax.keep q3) ?_)
    rw [hn1]
    refine int_u64 (by omega) (by omega) ⟨by omega, atI ((ha.keep q1).keep q3) (by omega) (by omega) ?_⟩
    rw [Int.toNat_natCast, show IntKind.i64.wrap (IntKind.i64.wrap (1 * 2 ^ min (Int.toNat 1) 64) - 1) = ((1 : Nat) : Int) from by decide]
    obtain ⟨m, hm⟩ : ∃ m : Nat, l.getD c 0 = m := ⟨(l.getD c 0).toNat, by omega⟩
    rw [hm]
    refine c_spec_l03Clique (x := colE 1 k []) (c := (c : Int)) hok (by rw [hn1]; omega) (by rw [hn1]; omega) m 1 w3 _ (by rw [hn1]; decide) (by omega) fun w4 q4 => ?_
    have hcl1 := clq_one (adjC (colE 1 k []) (c : Int)) (m := m) (by omega)
    rw [show (colE 1 k []).n.toNat = 1 from rfl, hcl1]
    refine ⟨q4, fun hy => ?_, fun hno => ?_⟩
    · have hy := dec_t hy
      intro _
      have hmem : (1 : Int) ∈ l := by
        have hcl' : c < l.length := by omega
        have e : l.getD c 0 = l[c] := by simp [List.getD, hcl']
        have : l[c] = 1 := by rw [← e, hm]; omega
        rw [← this]; exact List.getElem_mem hcl'
      have := hK w4 (q1.trans ((q3.trans (q4.mono q3.size)).mono q1.size))
      rwa [decide_eq_true hmem] at this
    · have hno := dec_f hno
      rw [wrap_small (by omega) (by omega)]
      refine hN _ _ ⟨q3.trans (q4.mono q3.size), c + 1, by omega, by omega, fun d hd => ?_⟩ (by omega)
      by_cases hdc : d < c
      · exact hall d hdc
      · have : d = c := by omega
        subst this; omega
  · have hge : ¬ (c : Int) < k := dec_f hge
    intro _
    have := hK w2 (q1.trans (q2.mono q1.size))
    rwa [decide_eq_false (fun h : (1 : Int) ∈ l => by
      obtain ⟨d, hd, he⟩ := List.mem_iff_getElem.1 h
      exact hall d (by omega) (by simpa [List.getD, hd] using he))] at this

end Go.Proofs.Ytkadckhealbdaaa

/- Colourings with other colours. No condition. -/
namespace Go.Proofs.Ytkadckhealbdaaa
open Go Go.RowKit Eng Mem
set_option maxRecDepth 100000
def recF (x : Col) (k : Int) (f : Int → Int) : Col := colF x.n k fun e => f (x.e e)
def esT (x : Col) (f : Int → Int) (m : Nat) : List Int := (List.range 136).map fun e => if e < m then f (x.e e) else x.e e
theorem esT_len (x : Col) (f : Int → Int) (m : Nat) : (esT x f m).length = 136 := by simp [esT]
theorem esT_0 {x : Col} (h : x.Ok) (f : Int → Int) : esT x f 0 = x.es := by
  apply List.ext_getElem
  · rw [esT_len, h.len]
  · intro i h1 h2; simp [esT, Col.e, h2]
theorem esT_e (x : Col) (f : Int → Int) {m i : Nat} (hi : i < 136) (n k : Int) : (⟨n, k, esT x f m⟩ : Col).e i = if i < m then f (x.e i) else x.e i := by
  simp [Col.e, esT, hi]
theorem esT_set (x : Col) (f : Int → Int) {m : Nat} (h : m < 136) : (esT x f m).set m (f (x.e m)) = esT x f (m + 1) := by
  apply List.ext_getElem?
  intro i
  by_cases hi : i = m
  · subst hi
    rw [List.getElem?_set_self (by rw [esT_len]; exact h)]
    simp [esT, h]
  · rw [List.getElem?_set_ne (Ne.symm hi)]
    by_cases h2 : i < 136
    · simp only [esT, List.getElem?_map, List.getElem?_range h2, Option.map_some]
      congr 1
      by_cases h3 : i < m
      · rw [if_pos h3, if_pos (by omega)]
      · rw [if_neg h3, if_neg (by omega)]
    · rw [List.getElem?_eq_none (by rw [esT_len]; omega), List.getElem?_eq_none (by rw [esT_len]; omega)]
theorem esT_end {x : Col} (h : x.Is) (f : Int → Int) (k : Int) : (⟨x.n, k, esT x f (edgesOf x.n).toNat⟩ : Col) = recF x k f := by
  have hb := edges_bd (n := x.n) (by have := h.1; omega) h.2.1
  unfold recF colF
  congr 1
  unfold esT esF
  apply List.map_congr_left
  intro e he
  have he : e < 136 := by simpa using he
  have := h.2.2.2.2 e he
  by_cases h1 : e < (edgesOf x.n).toNat
  · rw [if_pos h1, if_pos h1]
  · rw [if_neg (by omega)] at this
    rw [if_neg h1, if_neg h1, this]
theorem esT_byte {x : Col} (h : x.Ok) {f : Int → Int} {m : Nat} (hf : ∀ e, e < m → 0 ≤ f (x.e e) ∧ f (x.e e) < 256) : ∀ e ∈ esT x f m, 0 ≤ e ∧ e < 256 := by
  intro e he
  obtain ⟨i, _, rfl⟩ := List.mem_map.1 he
  by_cases hi : i < m
  · simp only [hi, if_true]; exact hf i hi
  · simp only [hi, if_false]; exact h.e_bd i
theorem recF_ok {x : Col} (hx : x.Ok) {k : Int} {f : Int → Int} (hk : I64 k) (h : ∀ e, e < (edgesOf x.n).toNat → 0 ≤ f (x.e e) ∧ f (x.e e) < 256) : (recF x k f).Ok := colF_ok ⟨hx.n0, hx.n1⟩ hk h
/-- The colours of a colouring. -/
theorem is_e {x : Col} (h : x.Is) (hx : x.Ok) {e : Nat} (he : e < (edgesOf x.n).toNat) : 0 ≤ x.e e ∧ x.e e < x.k := by
  have hb := edges_bd (n := x.n) (by have := h.1; omega) h.2.1
  have := h.2.2.2.2 e (by omega)
  rw [if_pos (by omega)] at this
  exact ⟨(hx.e_bd e).1, this⟩
def joinG (c d e : Int) : Int := if e = d then c else if e > d then e - 1 else e
def JoinIs (x : Col) (c d : Int) : Prop := (0 ≤ c ∧ c ≤ x.k - 1) ∧ (0 ≤ d ∧ d ≤ x.k - 1) ∧ c < d
instance (x : Col) (c d : Int) : Decidable (JoinIs x c d) := by unfold JoinIs; infer_instance
def joinF (x : Col) (c d : Int) : Col × Int := if x.Is then (if JoinIs x c d then (recF x (x.k - 1) (joinG c d), 0) else (col0, 2)) else (col0, 1)
theorem joinG_bd {x : Col} {c d e : Int} (h : JoinIs x c d) (h4 : x.k ≤ 4) (e0 : 0 ≤ e) (e1 : e < x.k) : 0 ≤ joinG c d e ∧ joinG c d e < 256 := by
  have h1 := h.1; have h2 := h.2.1; have h3 := h.2.2
  unfold joinG
  split
  · omega
  · split <;> omega
theorem joinF_ok {x : Col} (hx : x.Ok) (c d : Int) : (joinF x c d).1.Ok := by
  unfold joinF
  split
  · rename_i hI
    split
    · rename_i h
      have hk := hI.2.2.2.1; have hk1 := hI.2.2.1
      exact recF_ok hx ⟨by omega, by omega⟩ fun e he => joinG_bd h hk (is_e hI hx he).1 (is_e hI hx he).2
    · exact col0_ok
  · exact col0_ok
/-- A variable made after a block is another block. -/
theorem CVar.ne' {w w' : World} {p : Value} {b : Nat} {o : Obj} (h : CVar w.heap.size w' p) (hb : w.heap[b]? = some o) : p ≠ ptr b 0 := by
  obtain ⟨b', l, rfl, hB, hl, hn⟩ := h
  have := at_lt hb
  intro he
  injection he with he; injection he with he; injection he with he
  omega
end Go.Proofs.Ytkadckhealbdaaa
