/- Memory of the searches for renumberings. No condition. -/
import Derived.Test.YtkadckhealbdaaaS9Iso
import Derived.Test.YtkadckhealbdaaaS8App
import Derived.Test.YtkadckhealbdaaaS8Clq
import Derived.Laws.Tables
namespace Go.Proofs.Ytkadckhealbdaaa
open Go Go.RowKit Eng Mem
set_option maxRecDepth 100000
theorem own_one_I {w : World} {b : Nat} {v : Value} {l : List Int} (h : OwnI w b v l) : v.oneCell' = true := by
  obtain ⟨_, _, rfl, _⟩ := h.ex; rfl
/-! ### The list of images: in place -/
def vC (bp : Nat) (p : List Int) : Value := .slice (some ⟨bp, 0, none⟩) p.length 17
structure OwnC (w : World) (bp : Nat) (p : List Int) : Prop where
  ex : ∃ l, Blk w bp l tI ∧ l.length = 17 ∧ l.take p.length = iv p
  le : p.length ≤ 17
theorem OwnC.keep {w w' : World} {bp : Nat} {p : List Int} (h : OwnC w bp p) (q : Below w.heap.size w w') : OwnC w' bp p := by
  obtain ⟨⟨l, hb, r⟩, hl⟩ := h
  exact ⟨⟨l, below_at q hb (at_lt hb), r⟩, hl⟩
theorem OwnC.lt {w : World} {bp : Nat} {p : List Int} (h : OwnC w bp p) : bp < w.heap.size := by obtain ⟨⟨l, hb, _⟩, _⟩ := h; exact at_lt hb
theorem OwnC.pre {w : World} {bp : Nat} {p q : List Int} (h : OwnC w bp (p ++ q)) : OwnC w bp p := by
  obtain ⟨⟨l, hb, hl, ht⟩, hle⟩ := h
  simp at hle
  refine ⟨⟨l, hb, hl, ?_⟩, by omega⟩
  have := congrArg (List.take p.length) ht
  rw [List.take_take, List.length_append, Nat.min_eq_left (by omega)] at this
  rw [this]
  simp [iv]
theorem OwnC.own {w : World} {bp : Nat} {p : List Int} (h : OwnC w bp p) : OwnI w bp (vC bp p) p := by
  obtain ⟨⟨l, hb, hl, ht⟩, hle⟩ := h
  exact ⟨17, l, rfl, hb, hle, by unfold maxLen; omega, by omega, by rw [Nat.mul_one]; exact ht, by simp⟩
theorem OwnC.sl {w : World} {bp : Nat} {p : List Int} (h : OwnC w bp p) : SlI w (vC bp p) p := own_slI h.own (by have := h.le; omega)
theorem mkC_run (w : World) : (Instr.makeSlice tSI (.int .i64 0) (.int .i64 17)).run Try.prog w = .ok (.slice (some ⟨w.heap.size, 0, none⟩) 0 17) (w.alloc (.cells (List.replicate 17 (.int .i64 0)).toArray tI)) := by kernel_rfl
theorem mkC {w : World} {K : Value → World → Prop} (hK : ∀ b w', w.heap.size = b → Below w.heap.size w w' → OwnC w' b [] → K (vC b []) w') : Pr Try.prog (Instr.makeSlice tSI (.int .i64 0) (.int .i64 17)) w (.one .any) K := by
  have hn := new_alloc w (.cells (List.replicate 17 (.int .i64 0)).toArray tI)
  exact ⟨_, _, mkC_run w, hK w.heap.size _ rfl hn.below ⟨⟨_, hn.at_, by simp, rfl⟩, by simp⟩⟩
theorem appC {w : World} {bp : Nat} {p : List Int} {x : Int} {t : TypeId} {K : Value → World → Prop} (h : OwnC w bp p) (hl : p.length < 17)
    (hK : ∀ w', Mod [bp] w w' → OwnC w' bp (p ++ [x]) → K (vC bp (p ++ [x])) w') :
    Pr Try.prog (Instr.buildSlice tSI 1 #[(0, .int .i64 x)]) w (.one .any) fun y w1 => Pr Try.prog (Builtin.append_ #[tSI, tSI] t #[vC bp p, y]) w1 (.one .any) K := by
  refine mk1 ySI rfl fun b1 w1 n1 ho1 => ?_
  obtain ⟨i, hi, hz, hs, hby⟩ := ySI.parts
  obtain ⟨⟨l, hb, hll, ht⟩, hle⟩ := h.keep n1.below
  have hcell : ∀ j u, [Value.int .i64 x][j]? = some u → w1.cell? ((⟨b1, 0, none⟩ : Addr).add j) = some u := fun j u hu => by
    have hj : j = 0 := by
      rcases Nat.eq_zero_or_pos j with h | h
      · exact h
      · rw [List.getElem?_eq_none (by simp; omega)] at hu; cases hu
    subst hj
    rw [add_none]; simp [World.cell?, n1.at_] at hu ⊢; exact hu
  have hrun := run_append_room (P := Try.prog) w1 tSI t tI i ySI.und hi bp p.length 17 l.toArray hb ⟨b1, 0, none⟩ 1 1 [.int .i64 x] (by rw [hs]; rfl) hcell (by simp [Value.oneCell']) (by omega) (by rw [hs]; simp; omega)
  obtain ⟨mm, hb'⟩ := mod_setRow (l' := l.take (p.length * i.size) ++ [.int .i64 x] ++ l.drop (p.length * i.size + 1)) hb
  rw [hs, Nat.mul_one] at hrun hb' mm
  refine ⟨_, _, hrun, ?_⟩
  have hv : Value.slice (some ⟨bp, 0, none⟩) (p.length + 1) 17 = vC bp (p ++ [x]) := by simp [vC]
  rw [hv]
  refine hK _ ((n1.mod.mono (by simp)).trans mm) ⟨⟨_, hb', by simp; omega, ?_⟩, by simp; omega⟩
  rw [List.length_append, List.length_singleton, ht, iv, iv, List.map_append]
  exact List.take_left' (by simp)
/-! ### Degrees -/
def degP (x : Col) (i c : Int) (j : Nat) : Nat := (List.range j).countP fun t : Nat => joinB x i t c
def degK (x : Col) (i : Int) (j : Nat) : List Int := (List.range x.k.toNat).map fun c : Nat => (degP x i c j : Int)
theorem degK_len (x : Col) (i : Int) (j : Nat) : (degK x i j).length = x.k.toNat := by simp [degK]
theorem degK_get (x : Col) (i : Int) (j : Nat) {c : Nat} (h : c < x.k.toNat) : (degK x i j).getD c 0 = degP x i c j := by simp [degK, h]
theorem degP_le (x : Col) (i c : Int) (j : Nat) : degP x i c j ≤ j := Nat.le_trans List.countP_le_length (by simp)
theorem degP_succ (x : Col) (i c : Int) (j : Nat) : degP x i c (j + 1) = degP x i c j + if joinB x i j c then 1 else 0 := by
  unfold degP; rw [List.range_succ, List.countP_append]; simp [List.countP_cons]
theorem degK_same {x : Col} {i : Int} {j : Nat} (h : i = j) : degK x i (j + 1) = degK x i j := by
  unfold degK
  apply List.map_congr_left
  intro c _
  rw [degP_succ, if_neg (by simp [joinB, h]), Nat.add_zero]
theorem degK_set {x : Col} {i : Int} {j : Nat} (h : i ≠ j) (h0 : 0 ≤ colAt x i j) (_h1 : colAt x i j < x.k) : (degK x i j).set (colAt x i j).toNat ((degK x i j).getD (colAt x i j).toNat 0 + 1) = degK x i (j + 1) := by
  apply List.ext_getElem?
  intro c
  by_cases hc : c = (colAt x i j).toNat
  · subst hc
    have hlt : (colAt x i j).toNat < x.k.toNat := by omega
    rw [List.getElem?_set_self (by rw [degK_len]; exact hlt), degK_get _ _ _ hlt]
    simp [degK, hlt, degP_succ, joinB, h, Int.toNat_of_nonneg h0]
  · rw [List.getElem?_set_ne (Ne.symm hc)]
    by_cases h2 : c < x.k.toNat
    · simp only [degK, List.getElem?_map, List.getElem?_range h2, Option.map_some]
      rw [degP_succ, if_neg, Nat.add_zero]
      simp only [joinB, decide_eq_true_eq]
      rintro ⟨_, h3⟩
      omega
    · rw [List.getElem?_eq_none (by rw [degK_len]; omega), List.getElem?_eq_none (by rw [degK_len]; omega)]
theorem sameD_eq {x y : Col} (hk : x.k = y.k) (i j : Int) : decide (degK x i x.n.toNat = degK y j y.n.toNat) = sameD x y i j := by
  unfold sameD
  rw [decide_eq_decide]
  constructor
  · intro h c hc
    have := congrArg (fun l => l.getD c 0) h
    simp only [degK_get x i _ hc, degK_get y j _ (show c < y.k.toNat by omega)] at this
    exact_mod_cast this
  · intro h
    unfold degK
    rw [hk]
    apply List.map_congr_left
    intro c hc
    have hc : c < y.k.toNat := by simpa using hc
    have := h c (by omega)
    show ((degN x i c : Nat) : Int) = (degN y j c : Nat)
    rw [this]
/-! ### The tracer -/
def trV (px py po : Value) (S : Nat → Nat → Bool) : List Value := px :: py :: po :: (List.range 289).map fun e => .bool (S (e / 17) (e % 17))
theorem trV_len (px py po : Value) (S : Nat → Nat → Bool) : (trV px py po S).length = 292 := by simp [trV]
theorem trV_get (px py po : Value) (S : Nat → Nat → Bool) {i j : Nat} (hi : i < 17) (hj : j < 17) : (trV px py po S)[3 + i * 17 + j]? = some (.bool (S i j)) := by
  have h1 : i * 17 + j < 289 := by omega
  have h2 : (i * 17 + j) / 17 = i := by omega
  have h3 : (i * 17 + j) % 17 = j := by omega
  rw [show 3 + i * 17 + j = (i * 17 + j) + 1 + 1 + 1 from by omega]
  simp [trV, h1, h2, h3]
theorem trV_set (px py po : Value) (S : Nat → Nat → Bool) {i j : Nat} (v : Bool) (hi : i < 17) (hj : j < 17) : (trV px py po S).set (3 + i * 17 + j) (.bool v) = trV px py po fun a c => if a = i ∧ c = j then v else S a c := by
  rw [show 3 + i * 17 + j = (i * 17 + j) + 1 + 1 + 1 from by omega]
  unfold trV
  rw [List.set_cons_succ, List.set_cons_succ, List.set_cons_succ]
  congr 3
  apply List.ext_getElem?
  intro e
  by_cases he : e = i * 17 + j
  · subst he
    rw [List.getElem?_set_self (by simp; omega)]
    have h1 : i * 17 + j < 289 := by omega
    have h2 : (i * 17 + j) / 17 = i := by omega
    have h3 : (i * 17 + j) % 17 = j := by omega
    simp [h1, h2, h3]
  · rw [List.getElem?_set_ne (Ne.symm he)]
    by_cases h : e < 289
    · simp only [List.getElem?_map, List.getElem?_range h, Option.map_some]
      rw [if_neg]
      omega
    · rw [List.getElem?_eq_none (by simp; omega), List.getElem?_eq_none (by simp; omega)]
theorem buildTr (px py : Addr) (po : Option Addr) (n m : Nat) (w : World) : (Instr.build tTr #[(0, .pointer (some px)), (1, .pointer (some py)), (2, .slice po n m)]).run Try.prog w = .ok (.agg (trV (.pointer (some px)) (.pointer (some py)) (.slice po n m) fun _ _ => false).toArray) w := by kernel_rfl
theorem ixRq {t e : TypeId} {len size b off : Nat} {k : IntKind} {i : Int} {K : Value → Prop} (ht : TyR Try.prog t e len size) (h0 : 0 ≤ i) (h1 : i < len) (hK : K (ptr b (off + i.toNat * size))) : QAll Try.prog (Instr.indexAt t (ptr b off) (.int k i)) .any K :=
  ixR ht ⟨_, rfl⟩ h0 h1 (by simpa [padd, add_none] using hK)
theorem eqPT_run (a : Option Addr) (ox oy : Operand) (w : World) : (do eqGuard .eql tPT ox oy (.pointer a) (.pointer none); binOp .eql tPT (.pointer a) (.pointer none) : Sem Value).run Try.prog w = .ok (.bool a.isNone) w := by
  cases a <;> kernel_rfl
theorem selT_len (n : Nat) : (sel (fun _ => true) n).length = n := by
  unfold sel; rw [List.filter_eq_self.2 (fun _ _ => rfl)]; simp
theorem selT_get {n k : Nat} (h : k < n) : (sel (fun _ => true) n).getD k 0 = k := by
  unfold sel; rw [List.filter_eq_self.2 (fun _ _ => rfl)]; simp [h]
theorem Below.m {w w' : World} (h : Below w.heap.size w w') (S : List Nat) : Mod S w w' := mod_of_below h S
/-! ### The search -/
def srV (x y : Col) (one two : Value) (most cnt : Int) (first : Value) : List Value := x.cells ++ (y.cells ++ [one, two, .int .i64 most, .int .i64 cnt, first])
theorem setAll : ∀ (xs : List Value) (k off : Nat) (cs : List Value), off + k + xs.length ≤ cs.length →
    (xs.zipIdx k).foldl (fun (cs : Array Value) (t : Value × Nat) => cs.setIfInBounds (off + t.2) t.1) cs.toArray = (cs.take (off + k) ++ xs ++ cs.drop (off + k + xs.length)).toArray
  | [], k, off, cs, h => by simp
  | x :: xs, k, off, cs, h => by
    simp only [List.length_cons] at h
    rw [List.zipIdx_cons, List.foldl_cons]
    have hs : cs.toArray.setIfInBounds (off + k) x = (cs.set (off + k) x).toArray := by simp
    simp only [hs]
    rw [setAll xs (k + 1) off (cs.set (off + k) x) (by simp; omega)]
    congr 1
    rw [← Nat.add_assoc, List.drop_set_of_lt (by omega), List.take_set, List.set_eq_take_append_cons_drop, if_pos (by simp; omega), List.take_take, Nat.min_eq_left (by omega), List.drop_eq_nil_of_le (by simp; omega)]
    simp only [List.length_cons, List.append_assoc, List.singleton_append]
    rw [show off + k + 1 + xs.length = off + k + (xs.length + 1) from by omega]
theorem fill_put {place : Nat → Option (Nat × Nat)} {cells xs : List Value} {i off : Nat} {v : Value} {rest : List (Nat × Value)} (hp : place i = some (off, xs.length)) (hv : v.cells = xs.toArray) (hle : off + xs.length ≤ cells.length) :
    Instr.fill place cells.toArray ((i, v) :: rest) = Instr.fill place (cells.take off ++ xs ++ cells.drop (off + xs.length)).toArray rest := by
  have := setAll xs 0 off cells (by omega)
  rw [Nat.add_zero] at this
  conv => lhs; unfold Instr.fill
  simp only [hp, hv, List.size_toArray, ne_eq, not_true_eq_false, decide_false, Bool.false_or]
  rw [if_neg (by simp; omega)]
  congr 1
  rw [← Array.foldl_toList, Array.toList_zipIdx]
  exact this
theorem builtSr (ps : List (Nat × Value)) : Try.prog.built tSr ps = Instr.fill (fun i => #[(0, 138), (138, 138), (276, 1), (277, 1), (278, 1), (279, 1), (280, 1)][i]?) zSr.toArray ps := by kernel_rfl
theorem srV_len {x y : Col} (hx : x.Ok) (hy : y.Ok) (one two : Value) (most cnt : Int) (first : Value) : (srV x y one two most cnt first).length = 281 := by
  simp [srV, Col.cells, hx.len, hy.len]
theorem buildSr {x y : Col} (hx : x.Ok) (hy : y.Ok) {one two : Value} (h1 : one.cells = #[one]) (h2 : two.cells = #[two]) (most : Int) (w : World) :
    (Instr.build tSr #[(0, x.val), (1, y.val), (2, one), (3, two), (4, .int .i64 most)]).run Try.prog w = .ok (.agg (srV x y one two most 0 (.slice none 0 0)).toArray) w := by
  have lx : x.cells.length = 138 := by simp [Col.cells, hx.len]
  have ly : y.cells.length = 138 := by simp [Col.cells, hy.len]
  have lz : zC.length = 138 := by simp [zC, zA]
  apply run_build
  rw [builtSr]
  rw [fill_put (xs := x.cells) (off := 0) (by rw [lx]; rfl) rfl (by rw [lx]; simp [zSr, lz])]
  rw [fill_put (xs := y.cells) (off := 138) (by rw [ly]; rfl) rfl (by rw [lx, ly]; simp [zSr, lz, lx])]
  have e1 : (List.take 138 (List.take 0 zSr ++ x.cells ++ List.drop (0 + x.cells.length) zSr) ++ y.cells ++ List.drop (138 + y.cells.length) (List.take 0 zSr ++ x.cells ++ List.drop (0 + x.cells.length) zSr)) = x.cells ++ (y.cells ++ [.slice none 0 0, .slice none 0 0, .int .i64 0, .int .i64 0, .slice none 0 0]) := by
    rw [List.take_zero, List.nil_append, lx, ly, Nat.zero_add, List.take_left' lx, List.drop_append, lx, List.drop_eq_nil_of_le (by omega), List.nil_append, List.drop_drop, List.append_assoc]
    congr 2
  rw [e1]
  have step : ∀ (i off k : Nat) (v : Value) (rest : List (Nat × Value)) (ts : List Value), (#[(0, 138), (138, 138), (276, 1), (277, 1), (278, 1), (279, 1), (280, 1)] : Array (Nat × Nat))[i]? = some (off, 1) → off = 276 + k → v.cells = #[v] → k < ts.length →
      Instr.fill (fun i => (#[(0, 138), (138, 138), (276, 1), (277, 1), (278, 1), (279, 1), (280, 1)] : Array (Nat × Nat))[i]?) (x.cells ++ (y.cells ++ ts)).toArray ((i, v) :: rest) = Instr.fill (fun i => (#[(0, 138), (138, 138), (276, 1), (277, 1), (278, 1), (279, 1), (280, 1)] : Array (Nat × Nat))[i]?) (x.cells ++ (y.cells ++ ts.set k v)).toArray rest := fun i off k v rest ts hp ho hv hk => by
    rw [fill_put (xs := [v]) (off := off) hp hv (by simp [lx, ly]; omega)]
    congr 2
    rw [ho, List.take_append, List.take_append, lx, ly, List.take_of_length_le (by omega), List.take_of_length_le (by omega), List.drop_append, List.drop_append, lx, ly, List.drop_eq_nil_of_le (by simp; omega), List.drop_eq_nil_of_le (by simp; omega),
      List.set_eq_take_append_cons_drop, if_pos hk, show 276 + k - 138 - 138 = k from by omega, show 276 + k + [v].length - 138 - 138 = k + 1 from by simp; omega]
    simp
  rw [step 2 276 0 one _ _ rfl rfl h1 (by simp), step 3 277 1 two _ _ rfl rfl h2 (by simp), step 4 278 2 (.int .i64 most) _ _ rfl rfl rfl (by simp)]
  rfl
end Go.Proofs.Ytkadckhealbdaaa
