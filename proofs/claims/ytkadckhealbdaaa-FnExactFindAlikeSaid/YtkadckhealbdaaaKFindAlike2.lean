/- Texts that the law FnExactFindAlike needs, joined. No condition. -/
import Derived.Test.YtkadckhealbdaaaKFindAlike1
/- All orders of some numbers, and the cycles on the edges. No condition. -/
namespace Go.Proofs.Ytkadckhealbdaaa
open Go Go.RowKit Eng Mem
set_option maxRecDepth 100000
def ordF (n : Nat) : Nat → List Int → List (List Int)
  | 0, l => [l]
  | f + 1, l => (List.range n).flatMap fun i : Nat => if (i : Int) ∈ l then [] else ordF n f (l ++ [(i : Int)])
/-- Those that go on with a number below i. -/
def ordR (n f : Nat) (l : List Int) (i : Nat) : List (List Int) := (List.range i).flatMap fun i : Nat => if (i : Int) ∈ l then [] else ordF n f (l ++ [(i : Int)])
theorem ordR_zero (n f : Nat) (l : List Int) : ordR n f l 0 = [] := rfl
theorem ordR_skip {n f i : Nat} {l : List Int} (h : (i : Int) ∈ l) : ordR n f l (i + 1) = ordR n f l i := by
  unfold ordR; rw [List.range_succ, List.flatMap_append]; simp [h]
theorem ordR_go {n f i : Nat} {l : List Int} (h : (i : Int) ∉ l) : ordR n f l (i + 1) = ordR n f l i ++ ordF n f (l ++ [(i : Int)]) := by
  unfold ordR; rw [List.range_succ, List.flatMap_append]; simp [h]
theorem ordF_succ (n f : Nat) (l : List Int) : ordF n (f + 1) l = ordR n f l n := rfl
theorem ordF_len (n : Nat) : ∀ (f : Nat) (l : List Int), (ordF n f l).length ≤ n ^ f
  | 0, l => by simp [ordF]
  | f + 1, l => by
    have : ∀ i, (ordR n f l i).length ≤ i * n ^ f := fun i => by
      induction i with
      | zero => simp [ordR]
      | succ i ih =>
        by_cases h : (i : Int) ∈ l
        · rw [ordR_skip h, Nat.add_mul]; omega
        · rw [ordR_go h, List.length_append, Nat.add_mul]
          have := ordF_len n f (l ++ [(i : Int)])
          omega
    rw [ordF_succ, Nat.pow_succ, Nat.mul_comm]
    exact this n
theorem ordR_len (n f : Nat) (l : List Int) (i : Nat) : (ordR n f l i).length ≤ i * n ^ f := by
  induction i with
  | zero => simp [ordR]
  | succ i ih =>
    by_cases h : (i : Int) ∈ l
    · rw [ordR_skip h, Nat.add_mul]; omega
    · rw [ordR_go h, List.length_append, Nat.add_mul]
      have := ordF_len n f (l ++ [(i : Int)])
      omega
/-- Numbers below n, no two alike. -/
def Dis (n : Nat) (l : List Int) : Prop := (∀ x ∈ l, 0 ≤ x ∧ x < (n : Int)) ∧ l.Nodup
theorem Dis.app {n : Nat} {l : List Int} {i : Nat} (h : Dis n l) (hi : i < n) (hn : (i : Int) ∉ l) : Dis n (l ++ [(i : Int)]) := by
  refine ⟨fun x hx => ?_, ?_⟩
  · rcases List.mem_append.1 hx with hx | hx
    · exact h.1 x hx
    · simp at hx; omega
  · rw [List.nodup_append]
    exact ⟨h.2, by simp, fun a ha b hb => by simp at hb; rintro rfl; exact hn (hb ▸ ha)⟩
theorem ordF_all (n : Nat) : ∀ (f : Nat) (l : List Int), Dis n l → ∀ r ∈ ordF n f l, Dis n r ∧ r.length = l.length + f
  | 0, l, h, r, hr => by simp [ordF] at hr; subst hr; exact ⟨h, rfl⟩
  | f + 1, l, h, r, hr => by
    rw [ordF, List.mem_flatMap] at hr
    obtain ⟨i, hi, hr⟩ := hr
    by_cases hm : (i : Int) ∈ l
    · rw [if_pos hm] at hr; cases hr
    · rw [if_neg hm] at hr
      have := ordF_all n f _ (h.app (by simpa using hi) hm) r hr
      simp at this
      exact ⟨this.1, by omega⟩
theorem Dis.perm {n : Nat} {l : List Int} (h : Dis n l) (hl : l.length = n) : PermL l n := by
  refine ⟨by omega, fun i hi => ?_, fun i j hij hj => ?_⟩
  · have hi : i < l.length := by omega
    have e : l.getD i 0 = l[i] := by simp [List.getD, hi]
    rw [e]
    exact h.1 _ (List.getElem_mem hi)
  · have hj : j < l.length := by omega
    have hi : i < l.length := by omega
    have e1 : l.getD i 0 = l[i] := by simp [List.getD, hi]
    have e2 : l.getD j 0 = l[j] := by simp [List.getD, hj]
    rw [e1, e2]
    exact List.pairwise_iff_getElem.1 h.2 i j hi hj hij
theorem len_sub : ∀ {a l : List Int}, a.Nodup → (∀ x ∈ a, x ∈ l) → a.length ≤ l.length
  | [], _, _, _ => Nat.zero_le _
  | x :: a, l, hn, h => by
    have hx := h x (List.mem_cons_self ..)
    rw [List.nodup_cons] at hn
    have := len_sub (l := l.erase x) hn.2 fun y hy => (List.mem_erase_of_ne (by rintro rfl; exact hn.1 hy)).2 (h y (List.mem_cons_of_mem _ hy))
    rw [List.length_erase_of_mem hx] at this
    have := List.length_pos_of_mem hx
    simp only [List.length_cons]
    omega
theorem ordF_perm {n : Nat} {r : List Int} (hr : r ∈ ordF n n []) : PermL r n := by
  have := ordF_all n n [] ⟨by simp, by simp⟩ r hr
  simp at this
  exact this.1.perm this.2
/-- There is one at least. -/
theorem ordF_pos (n : Nat) : ∀ (f : Nat) (l : List Int), Dis n l → l.length + f = n → ordF n f l ≠ []
  | 0, l, _, _ => by simp [ordF]
  | f + 1, l, h, hl => by
    have : ∃ i, i < n ∧ (i : Int) ∉ l := by
      apply Classical.byContradiction
      intro hn
      have hall : ∀ x ∈ (List.range n).map (fun i : Nat => (i : Int)), x ∈ l := fun x hx => by
        obtain ⟨i, hi, rfl⟩ := List.mem_map.1 hx
        exact Classical.byContradiction fun hc => hn ⟨i, by simpa using hi, hc⟩
      have hnd : ((List.range n).map fun i : Nat => (i : Int)).Nodup := List.Pairwise.map _ (fun a b hab h => hab (by omega)) List.nodup_range
      have := len_sub hnd hall
      simp at this
      omega
    obtain ⟨i, hi, hn⟩ := this
    intro he
    rw [ordF, List.flatMap_eq_nil_iff] at he
    have := he i (by simpa using hi)
    rw [if_neg hn] at this
    exact ordF_pos n f _ (h.app hi hn) (by simp; omega) this
end Go.Proofs.Ytkadckhealbdaaa

/- Memory of the orders. No condition. -/
namespace Go.Proofs.Ytkadckhealbdaaa
open Go Go.RowKit Eng Mem
set_option maxRecDepth 100000
theorem MySS.mono {B B' b : Nat} {w : World} {v : Value} {ls : List (List Int)} (h : MySS B b w v ls) (hB : B' ≤ B) : MySS B' b w v ls := by
  obtain ⟨vs, ho, hi⟩ := h
  exact ⟨vs, ho, fun i u l h1 h2 => by obtain ⟨c, hc, h3⟩ := hi i u l h1 h2; exact ⟨c, by omega, h3⟩⟩
theorem oneSS {B c : Nat} {w : World} {u : Value} {l : List Int} {K : Value → World → Prop} (hu : OwnI w c u l) (hc : B ≤ c)
    (hK : ∀ v w' b, w.heap.size ≤ b → Below w.heap.size w w' → MySS B b w' v [l] → K v w') : Pr Try.prog (Instr.buildSlice tSSI 1 #[(0, u)]) w (.one .any) K :=
  mk1 ySSI (own_one hu).2 fun b w' hn ho => hK _ w' b (Nat.le_of_eq hn.here.symm) hn.below ⟨[u], ho, fun i x m h1 h2 => by
    have : i = 0 := by
      rcases Nat.eq_zero_or_pos i with h | h
      · exact h
      · rw [List.getElem?_eq_none (by simp; omega)] at h1; cases h1
    subst this
    simp at h1 h2
    subst h1; subst h2
    exact ⟨c, hc, hu.keep hn.below⟩⟩
theorem MySS.ones {B b : Nat} {w : World} {v : Value} {ls : List (List Int)} (h : MySS B b w v ls) : ∃ vs, Own w b tSI 1 v ls.length vs ∧ vs.length = ls.length ∧ (∀ x ∈ vs, x.oneCell' = true) ∧ ∀ (i : Nat) u l, vs[i]? = some u → ls[i]? = some l → ∃ c, B ≤ c ∧ OwnI w c u l := by
  obtain ⟨vs, ho, hi⟩ := h
  have hl : vs.length = ls.length := by have := ho.len; omega
  refine ⟨vs, ho, hl, fun x hx => ?_, hi⟩
  obtain ⟨i, hlt, rfl⟩ := List.mem_iff_getElem.1 hx
  obtain ⟨c, _, h3⟩ := hi i vs[i] (ls[i]'(by omega)) (List.getElem?_eq_getElem hlt) (List.getElem?_eq_getElem (by omega))
  exact (own_one h3).1
/-- Slices of slices, one after another. -/
theorem appsSS {B b c : Nat} {w : World} {v u : Value} {ls ms : List (List Int)} {t : TypeId} {K : Value → World → Prop} (h : MySS B b w v ls) (hu : MySS B c w u ms) (hl : ls.length + ms.length ≤ 1099511627776)
    (hK : ∀ v' w' b', MySS B b' w' v' (ls ++ ms) → Mod [b] w w' → (b' = b ∨ w.heap.size ≤ b') → K v' w') : Pr Try.prog (Builtin.append_ #[tSSI, tSSI] t #[v, u]) w (.one .any) K := by
  obtain ⟨vs, ho, hvl, h1, hi⟩ := h.ones
  obtain ⟨us, hou, hul, h1u, hiu⟩ := hu.ones
  refine app ySSI ms.length ho hou.sl (by rw [hul]; omega) h1u (by omega) fun v' w' b' o m hb => ?_
  have tbl : ∀ c x l', OwnI w c x l' → OwnI w' c x l' := fun c x l' h3 => by
    obtain ⟨_, hb3⟩ := own_blk h3
    obtain ⟨_, hb4⟩ := own_blk ho
    exact h3.mod m (by simp; exact blk_ne hb3 hb4 (by decide))
  refine hK v' w' b' ⟨vs ++ us, ?_, fun i x l' h1 h2 => ?_⟩ m hb
  · rw [List.length_append]; exact o
  · by_cases hlt : i < vs.length
    · rw [List.getElem?_append_left hlt] at h1
      rw [List.getElem?_append_left (by omega)] at h2
      obtain ⟨c', hc', h3⟩ := hi i x l' h1 h2
      exact ⟨c', hc', tbl _ _ _ h3⟩
    · rw [List.getElem?_append_right (by omega)] at h1
      rw [List.getElem?_append_right (by omega)] at h2
      rw [hvl] at h1
      obtain ⟨c', hc', h3⟩ := hiu _ x l' h1 h2
      exact ⟨c', hc', tbl _ _ _ h3⟩
/-- One of the slices is read. -/
theorem atSS {B b : Nat} {w : World} {v : Value} {ls : List (List Int)} {k : IntKind} {i : Int} {K : Value → Prop} (h : MySS B b w v ls) (h0 : 0 ≤ i) (h1 : i < ls.length) (hK : ∀ u c, B ≤ c → OwnI w c u (ls.getD i.toNat []) → K u) :
    QAll Try.prog (Instr.indexAt tSSI v (.int k i)) .any fun p => QSub Try.prog (Instr.loadAt tSI p) w .any K := by
  obtain ⟨vs, ho, hvl, h1o, hi⟩ := h.ones
  have hv : i.toNat < vs.length := by omega
  refine ixS ySSI ho.sl h0 (by omega) fun p hp => ?_
  obtain ⟨c, hc, h3⟩ := hi i.toNat vs[i.toNat] (ls[i.toNat]'(by omega)) (List.getElem?_eq_getElem hv) (List.getElem?_eq_getElem (by omega))
  have hcell : Cell w p vs[i.toNat] := hp [_] fun j hj => by
    have : j = 0 := by simp at hj; exact hj
    subst this
    simp [hv]
  refine ld (k := .any) y1SI hcell (hK _ c hc ?_)
  have e : ls.getD i.toNat [] = ls[i.toNat]'(by omega) := by simp [List.getD, show i.toNat < ls.length by omega]
  rw [e]
  exact h3
end Go.Proofs.Ytkadckhealbdaaa

/- Colourings with other colours. No condition. -/
namespace Go.Proofs.Ytkadckhealbdaaa
open Go Go.RowKit Eng Mem
set_option maxRecDepth 100000
def recF (x : Col) (k : Int) (f : Int → Int) : Col := colF x.n k fun e => f (x.e e)
def esT (x : Col) (f : Int → Int) (m : Nat) : List Int := (List.range 136).map fun e => if e < m then f (x.e e) else x.e e
theorem esT_len (x : Col) (f : Int → Int) (m : Nat) : (esT x f m).length = 136 := by simp [esT]
theorem esT_0 {x : Col} (h : x.Ok) (f : Int → Int) : esT x f 0 = x.es := by
  apply List.ext_getElem
  · rw [esT_len, h.len]
  · intro i h1 h2; simp [esT, Col.e, h2]
theorem esT_e (x : Col) (f : Int → Int) {m i : Nat} (hi : i < 136) (n k : Int) : (⟨n, k, esT x f m⟩ : Col).e i = if i < m then f (x.e i) else x.e i := by
  simp [Col.e, esT, hi]
theorem esT_set (x : Col) (f : Int → Int) {m : Nat} (h : m < 136) : (esT x f m).set m (f (x.e m)) = esT x f (m + 1) := by
  apply List.ext_getElem?
  intro i
  by_cases hi : i = m
  · subst hi
    rw [List.getElem?_set_self (by rw [esT_len]; exact h)]
    simp [esT, h]
  · rw [List.getElem?_set_ne (Ne.symm hi)]
    by_cases h2 : i < 136
    · simp only [esT, List.getElem?_map, List.getElem?_range h2, Option.map_some]
      congr 1
      by_cases h3 : i < m
      · rw [if_pos h3, if_pos (by omega)]
      · rw [if_neg h3, if_neg (by omega)]
    · rw [List.getElem?_eq_none (by rw [esT_len]; omega), List.getElem?_eq_none (by rw [esT_len]; omega)]
theorem esT_end {x : Col} (h : x.Is) (f : Int → Int) (k : Int) : (⟨x.n, k, esT x f (edgesOf x.n).toNat⟩ : Col) = recF x k f := by
  have hb := edges_bd (n := x.n) (by have := h.1; omega) h.2.1
  unfold recF colF
  congr 1
  unfold esT esF
  apply List.map_congr_left
  intro e he
  have he : e < 136 := by simpa using he
  have := h.2.2.2.2 e he
  by_cases h1 : e < (edgesOf x.n).toNat
  · rw [if_pos h1, if_pos h1]
  · rw [if_neg (by omega)] at this
    rw [if_neg h1, if_neg h1, this]
theorem esT_byte {x : Col} (h : x.Ok) {f : Int → Int} {m : Nat} (hf : ∀ e, e < m → 0 ≤ f (x.e e) ∧ f (x.e e) < 256) : ∀ e ∈ esT x f m, 0 ≤ e ∧ e < 256 := by
  intro e he
  obtain ⟨i, _, rfl⟩ := List.mem_map.1 he
  by_cases hi : i < m
  · simp only [hi, if_true]; exact hf i hi
  · simp only [hi, if_false]; exact h.e_bd i
theorem recF_ok {x : Col} (hx : x.Ok) {k : Int} {f : Int → Int} (hk : I64 k) (h : ∀ e, e < (edgesOf x.n).toNat → 0 ≤ f (x.e e) ∧ f (x.e e) < 256) : (recF x k f).Ok := colF_ok ⟨hx.n0, hx.n1⟩ hk h
/-- The colours of a colouring. -/
theorem is_e {x : Col} (h : x.Is) (hx : x.Ok) {e : Nat} (he : e < (edgesOf x.n).toNat) : 0 ≤ x.e e ∧ x.e e < x.k := by
  have hb := edges_bd (n := x.n) (by have := h.1; omega) h.2.1
  have := h.2.2.2.2 e (by omega)
  rw [if_pos (by omega)] at this
  exact ⟨(hx.e_bd e).1, this⟩
def joinG (c d e : Int) : Int := if e = d then c else if e > d then e - 1 else e
def JoinIs (x : Col) (c d : Int) : Prop := (0 ≤ c ∧ c ≤ x.k - 1) ∧ (0 ≤ d ∧ d ≤ x.k - 1) ∧ c < d
instance (x : Col) (c d : Int) : Decidable (JoinIs x c d) := by unfold JoinIs; infer_instance
def joinF (x : Col) (c d : Int) : Col × Int := if x.Is then (if JoinIs x c d then (recF x (x.k - 1) (joinG c d), 0) else (col0, 2)) else (col0, 1)
theorem joinG_bd {x : Col} {c d e : Int} (h : JoinIs x c d) (h4 : x.k ≤ 4) (e0 : 0 ≤ e) (e1 : e < x.k) : 0 ≤ joinG c d e ∧ joinG c d e < 256 := by
  have h1 := h.1; have h2 := h.2.1; have h3 := h.2.2
  unfold joinG
  split
  · omega
  · split <;> omega
theorem joinF_ok {x : Col} (hx : x.Ok) (c d : Int) : (joinF x c d).1.Ok := by
  unfold joinF
  split
  · rename_i hI
    split
    · rename_i h
      have hk := hI.2.2.2.1; have hk1 := hI.2.2.1
      exact recF_ok hx ⟨by omega, by omega⟩ fun e he => joinG_bd h hk (is_e hI hx he).1 (is_e hI hx he).2
    · exact col0_ok
  · exact col0_ok
/-- A variable made after a block is another block. -/
theorem CVar.ne' {w w' : World} {p : Value} {b : Nat} {o : Obj} (h : CVar w.heap.size w' p) (hb : w.heap[b]? = some o) : p ≠ ptr b 0 := by
  obtain ⟨b', l, rfl, hB, hl, hn⟩ := h
  have := at_lt hb
  intro he
  injection he with he; injection he with he; injection he with he
  omega
end Go.Proofs.Ytkadckhealbdaaa

/- Colourings that are alike. No condition. -/
namespace Go.Proofs.Ytkadckhealbdaaa
open Go Go.RowKit Eng Mem
set_option maxRecDepth 100000
def qF (q : List Int) (e : Int) : Int := q.getD e.toNat 0
def alkO (x y : Col) (q : List Int) : Option (List Int × List Int) := (isoOf (recF x x.k (qF q)) y).map fun p => (q, p)
def alikeR (x y : Col) (L : List (List Int)) (i : Nat) : Option (List Int × List Int) := (L.drop i).findSome? (alkO x y)
theorem alikeR_end (x y : Col) (L : List (List Int)) : alikeR x y L L.length = none := by unfold alikeR; rw [List.drop_of_length_le (Nat.le_refl _)]; rfl
theorem alikeR_skip {x y : Col} {L : List (List Int)} {i : Nat} (h : i < L.length) (hn : isoOf (recF x x.k (qF (L.getD i []))) y = none) : alikeR x y L i = alikeR x y L (i + 1) := by
  unfold alikeR
  have e : L.getD i [] = L[i] := by simp [List.getD, h]
  rw [List.drop_eq_getElem_cons h, List.findSome?_cons, ← e]
  unfold alkO
  rw [hn]
  rfl
theorem alikeR_go {x y : Col} {L : List (List Int)} {i : Nat} {p : List Int} (h : i < L.length) (hs : isoOf (recF x x.k (qF (L.getD i []))) y = some p) : alikeR x y L i = some (L.getD i [], p) := by
  unfold alikeR
  have e : L.getD i [] = L[i] := by simp [List.getD, h]
  rw [List.drop_eq_getElem_cons h, List.findSome?_cons, ← e]
  unfold alkO
  rw [hs]
  rfl
def alikeO (x y : Col) : Option (List Int × List Int) := alikeR x y (ordF x.k.toNat x.k.toNat []) 0
def alikeF (x y : Col) : List Int × List Int × Int := if x.Is ∧ y.Is then (match alikeO x y with | some t => (t.1, t.2, 0) | none => ([], [], 4)) else ([], [], 1)
theorem recF_is {x : Col} (hI : x.Is) (hx : x.Ok) {f : Int → Int} (hf : ∀ e, 0 ≤ e → e < x.k → 0 ≤ f e ∧ f e < x.k) : (recF x x.k f).Is := by
  have hb := edges_bd (n := x.n) (by have := hI.1; omega) hI.2.1
  refine ⟨hI.1, hI.2.1, hI.2.2.1, hI.2.2.2.1, fun i hi => ?_⟩
  unfold recF colF
  rw [esF_e _ _ _ _ _ hi]
  show if (i : Int) < edgesOf x.n then _ < x.k else _ = 0
  by_cases h : i < (edgesOf x.n).toNat
  · rw [if_pos (by omega), if_pos h]
    have := is_e hI hx h
    exact (hf _ this.1 this.2).2
  · rw [if_neg (by omega), if_neg h]
theorem qF_bd {q : List Int} {k : Int} (h : PermL q k) : ∀ e, 0 ≤ e → e < k → 0 ≤ qF q e ∧ qF q e < k := fun e e0 e1 => h.bd e.toNat (by omega)
theorem recq_ok {x : Col} {q : List Int} (hI : x.Is) (hx : x.Ok) (h : PermL q x.k) : (recF x x.k (qF q)).Ok := by
  have hk := hI.2.2.2.1; have hk1 := hI.2.2.1
  exact recF_ok hx ⟨by omega, by omega⟩ fun e he => by
    have := is_e hI hx he
    have := qF_bd h _ this.1 this.2
    omega
theorem sl0_run (b n c : Nat) (hn : n ≤ c) (w : World) : (Instr.sliceAt tSSI (.slice (some ⟨b, 0, none⟩) n c) (some (.int .i64 0)) none none).run Try.prog w = .ok (.slice (some ⟨b, 0, none⟩) n c) w := by
  have hs : (Try.prog.info? tSI).map (·.size) = some 1 := y1SI.size
  unfold Instr.sliceAt
  simp only [Sem.run_bind, run_underlying ySSI.und, Result.andThen_ok]
  unfold Instr.slice
  simp [run_underlying ySSI.und, Instr.sliceBounds, Instr.sliceBound, asIntOf, sizeOf_run hs, hn, add_none]
/-- One of the slices is read, later: it is what it was. -/
theorem atSS' {B b : Nat} {w w' : World} {v : Value} {ls : List (List Int)} {k : IntKind} {i : Int} {K : Value → Prop} (h : MySS B b w v ls) (q : Below w.heap.size w w') (h0 : 0 ≤ i) (h1 : i < ls.length) (hK : ∀ u c, B ≤ c → OwnI w c u (ls.getD i.toNat []) → K u) :
    QAll Try.prog (Instr.indexAt tSSI v (.int k i)) .any fun p => QSub Try.prog (Instr.loadAt tSI p) w' .any K := by
  obtain ⟨vs, ho, hvl, h1o, hi⟩ := h.ones
  have hv : i.toNat < vs.length := by omega
  refine ixS ySSI (ho.keep q).sl h0 (by omega) fun p hp => ?_
  obtain ⟨c, hc, h3⟩ := hi i.toNat vs[i.toNat] (ls[i.toNat]'(by omega)) (List.getElem?_eq_getElem hv) (List.getElem?_eq_getElem (by omega))
  have hcell : Cell w' p vs[i.toNat] := hp [_] fun j hj => by
    have : j = 0 := by simp at hj; exact hj
    subst this
    simp [hv]
  refine ld (k := .any) y1SI hcell (hK _ c hc ?_)
  have e : ls.getD i.toNat [] = ls[i.toNat]'(by omega) := by simp [List.getD, show i.toNat < ls.length by omega]
  rw [e]
  exact h3
end Go.Proofs.Ytkadckhealbdaaa

/- The reading of impl_Colouring_alike_1, and its contract. No condition. -/
namespace Go.Proofs.Ytkadckhealbdaaa
open Go Go.RowKit Eng Mem
set_option linter.unusedVariables false
set_option maxRecDepth 100000
def V_impl_Colouring_alike_1 (c0 : Int) (x1 : Value) (w : World) (K : Int → World → Prop) : Prop :=
  (QSub Try.prog (Instr.loadAt 31 x1) w .any fun (x4_1 : Value) => (QAll Try.prog (Instr.indexAt 31 x4_1 (.int .i64 c0)) .any fun (x6_2 : Value) => (QSub Try.prog (Instr.loadAt 2 x6_2) w (.int .i64) fun (x7_3 : Int) => K x7_3 w)))

theorem eq_impl_Colouring_alike_1 (c0 : Int) (x1 : Value) (w : World) (K : Int → World → Prop) :
    W Try.prog ty (fun _ _ _ _ => False) (bodyOf Try.f113) (fnPost Try.prog Try.f113.results.toList (.one (.int .i64)) K) (frame0 [(.int .i64 c0), x1] 8) w = V_impl_Colouring_alike_1 c0 x1 w K := by
  kernel_rfl

theorem body_impl_Colouring_alike_1 : Try.f113.body = some (bodyOf Try.f113) := by kernel_rfl
theorem name_impl_Colouring_alike_1 : (Try.f113.name == "runtime.NumGoroutine") = false := by kernel_rfl

theorem walk_impl_Colouring_alike_1 (c0 : Int) (x1 : Value) {w : World} {K : Int → World → Prop} (h : V_impl_Colouring_alike_1 c0 x1 w K) : Fc Try.prog 113 #[(.int .i64 c0), x1] w (.one (.int .i64)) K :=
  fn_ok follows (sound_none _) Try.func113 name_impl_Colouring_alike_1 body_impl_Colouring_alike_1 Try.ntmps113 [(.int .i64 c0), x1] (Eq.mpr (eq_impl_Colouring_alike_1 c0 x1 w K) h)

-- uses S9Alk
theorem c_impl_Colouring_alike_1 {p v : Value} {q : List Int} {c : Int} {w : World} {K : Int → World → Prop} (hp : Cell w p v) (hv : SlI w v q) (h0 : 0 ≤ c) (h1 : c < q.length) (hK : K (qF q c) w) : Fc Try.prog F_impl_Colouring_alike_1 #[.int .i64 c, p] w (.one (.int .i64)) K :=
  walk_impl_Colouring_alike_1 _ _ (ld (k := .any) y1SI hp (atI hv h0 h1 hK))

end Go.Proofs.Ytkadckhealbdaaa

/- The reading of impl_number, and its contract. No condition. -/
namespace Go.Proofs.Ytkadckhealbdaaa
open Go Go.RowKit Eng Mem
set_option linter.unusedVariables false
set_option maxRecDepth 100000
def V_impl_number (i0 : Int) (j1 : Int) (w : World) (K : Int → World → Prop) : Prop :=
  (QAll Try.prog (Builtin.min_ #[2, 2] 2 #[(.int .i64 i0), (.int .i64 j1)]) (.int .i64) fun (x7_1 : Int) => (QAll Try.prog (Builtin.max_ #[2, 2] 2 #[(.int .i64 i0), (.int .i64 j1)]) (.int .i64) fun (x10_2 : Int) => ((2 : Int) ≠ 0 ∧ K (IntKind.i64.wrap ((IntKind.i64.wrap (Int.tdiv (IntKind.i64.wrap (x10_2 * (IntKind.i64.wrap (x10_2 - (1 : Int))))) (2 : Int))) + x7_1)) w)))

theorem eq_impl_number (i0 : Int) (j1 : Int) (w : World) (K : Int → World → Prop) :
    W Try.prog ty (fun _ _ _ _ => False) (bodyOf Try.f115) (fnPost Try.prog Try.f115.results.toList (.one (.int .i64)) K) (frame0 [(.int .i64 i0), (.int .i64 j1)] 18) w = V_impl_number i0 j1 w K := by
  kernel_rfl

theorem body_impl_number : Try.f115.body = some (bodyOf Try.f115) := by kernel_rfl
theorem name_impl_number : (Try.f115.name == "runtime.NumGoroutine") = false := by kernel_rfl

theorem walk_impl_number (i0 : Int) (j1 : Int) {w : World} {K : Int → World → Prop} (h : V_impl_number i0 j1 w K) : Fc Try.prog 115 #[(.int .i64 i0), (.int .i64 j1)] w (.one (.int .i64)) K :=
  fn_ok follows (sound_none _) Try.func115 name_impl_number body_impl_number Try.ntmps115 [(.int .i64 i0), (.int .i64 j1)] (Eq.mpr (eq_impl_number i0 j1 w K) h)

-- uses S5Made
theorem c_impl_number {i j : Int} {w : World} {K : Int → World → Prop} (h0 : 0 ≤ i) (h1 : i ≤ 17) (k0 : 0 ≤ j) (k1 : j ≤ 17) (hK : K (num i j) w) : Fc Try.prog F_impl_number #[.int .i64 i, .int .i64 j] w (.one (.int .i64)) K := by
  refine walk_impl_number _ _ (mn (mx ⟨by decide, ?_⟩))
  by_cases h : i < j
  · rw [if_pos (show j > i from h), if_neg (by omega), wnum h0 h1 k0 k1]
    rwa [num_of h] at hK
  · rw [if_neg (show ¬ j > i from h)]
    unfold num at hK
    rw [if_neg h] at hK
    by_cases h' : j < i
    · rw [if_pos h', wnum k0 k1 h0 h1]; exact hK
    · have : i = j := by omega
      subst this
      rw [if_neg h', wnum k0 k1 h0 h1]; exact hK

end Go.Proofs.Ytkadckhealbdaaa

/- The reading of impl_Colouring_at, and its contract. No condition. -/
namespace Go.Proofs.Ytkadckhealbdaaa
open Go Go.RowKit Eng Mem
set_option linter.unusedVariables false
set_option maxRecDepth 100000
def V_impl_Colouring_at (x0 : Value) (i1 : Int) (j2 : Int) (w : World) (K : Int → World → Prop) : Prop :=
  (∀ w_1, Drew w w_1 → (NilOk x0 ∧ (QAll Try.prog (Instr.fieldAt 25 x0 2) .any fun (x12_2 : Value) => (Fc Try.prog 115 #[(.int .i64 i1), (.int .i64 j2)] w_1 (.one (.int .i64)) fun (x10_4 : Int) w_3 => (Keeps w_1 w_3 ((QAll Try.prog (Instr.indexAt 22 x12_2 (.int .i64 x10_4)) .any fun (x13_5 : Value) => (QSub Try.prog (Instr.loadAt 5 x13_5) w_3 (.int .u8) fun (x14_6 : Int) => (QAll Try.prog (convert 5 2 (.int .u8 x14_6)) (.int .i64) fun (x15_7 : Int) => K x15_7 w_3)))))))))

theorem eq_impl_Colouring_at (x0 : Value) (i1 : Int) (j2 : Int) (w : World) (K : Int → World → Prop) :
    W Try.prog ty (fun _ _ _ _ => False) (bodyOf Try.f89) (fnPost Try.prog Try.f89.results.toList (.one (.int .i64)) K) (frame0 [x0, (.int .i64 i1), (.int .i64 j2)] 16) w = V_impl_Colouring_at x0 i1 j2 w K := by
  kernel_rfl

theorem body_impl_Colouring_at : Try.f89.body = some (bodyOf Try.f89) := by kernel_rfl
theorem name_impl_Colouring_at : (Try.f89.name == "runtime.NumGoroutine") = false := by kernel_rfl

theorem walk_impl_Colouring_at (x0 : Value) (i1 : Int) (j2 : Int) {w : World} {K : Int → World → Prop} (h : V_impl_Colouring_at x0 i1 j2 w K) : Fc Try.prog 89 #[x0, (.int .i64 i1), (.int .i64 j2)] w (.one (.int .i64)) K :=
  fn_ok follows (sound_none _) Try.func89 name_impl_Colouring_at body_impl_Colouring_at Try.ntmps89 [x0, (.int .i64 i1), (.int .i64 j2)] (Eq.mpr (eq_impl_Colouring_at x0 i1 j2 w K) h)

-- uses S5Made
theorem c_impl_Colouring_at {p : Value} {c : Col} {i j : Int} {w : World} {K : Int → World → Prop} (hc : c.Ok) (hx : ColAt w p c) (h0 : 0 ≤ i) (h1 : i < 17) (k0 : 0 ≤ j) (k1 : j < 17) (hne : i ≠ j) (hK : ∀ w', Below w.heap.size w w' → K (c.e (num i j).toNat) w') :
    Fc Try.prog F_impl_Colouring_at #[p, .int .i64 i, .int .i64 j] w (.one (.int .i64)) K := by
  refine walk_impl_Colouring_at _ _ _ ?_
  intro w1 hd
  have hb := hd.below w.heap.size
  have hx := hx.keep hb
  have hn := num_lt h0 h1 k0 k1 (Int.le_refl _) hne
  rw [show edgesOf 17 = 136 from by decide] at hn
  have hbd := hc.e_bd (num i j).toNat
  exact ⟨hx.nonnil, fld f2 hx.nonnil hx.isPtr (c_impl_number h0 (by omega) k0 (by omega) ⟨Below.refl _ _, es_e hc (Col.es_row hx) hn.1 hn.2 (u8_int hbd.1 hbd.2 (hK w1 hb))⟩)⟩

end Go.Proofs.Ytkadckhealbdaaa

/- The reading of impl_Colouring_recoloured_1, and its contract. No condition. -/
namespace Go.Proofs.Ytkadckhealbdaaa
open Go Go.RowKit Eng Mem
set_option linter.unusedVariables false
set_option maxRecDepth 100000
def V_impl_Colouring_recoloured_1 (i0 : Int) (j1 : Int) (x2 : Value) (x3 : Value) (w : World) (K : Int → World → Prop) : Prop :=
  (∀ w_1, Drew w w_1 → (QSub Try.prog (Instr.loadAt 59 x2) w_1 .any fun (x7_2 : Value) => (QSub Try.prog (Instr.loadAt 77 x3) w_1 .any fun (x8_3 : Value) => (Fc Try.prog 89 #[x8_3, (.int .i64 i0), (.int .i64 j1)] w_1 (.one (.int .i64)) fun (x11_5 : Int) w_4 => (Keeps w_1 w_4 ((callV Try.prog x7_2 #[(.int .i64 x11_5)] w_4 (.one (.int .i64)) fun (x12_7 : Int) w_6 => (Keeps w_1 w_6 (K x12_7 w_6)))))))))

theorem eq_impl_Colouring_recoloured_1 (i0 : Int) (j1 : Int) (x2 : Value) (x3 : Value) (w : World) (K : Int → World → Prop) :
    W Try.prog ty (fun _ _ _ _ => False) (bodyOf Try.f88) (fnPost Try.prog Try.f88.results.toList (.one (.int .i64)) K) (frame0 [(.int .i64 i0), (.int .i64 j1), x2, x3] 13) w = V_impl_Colouring_recoloured_1 i0 j1 x2 x3 w K := by
  kernel_rfl

theorem body_impl_Colouring_recoloured_1 : Try.f88.body = some (bodyOf Try.f88) := by kernel_rfl
theorem name_impl_Colouring_recoloured_1 : (Try.f88.name == "runtime.NumGoroutine") = false := by kernel_rfl

theorem walk_impl_Colouring_recoloured_1 (i0 : Int) (j1 : Int) (x2 : Value) (x3 : Value) {w : World} {K : Int → World → Prop} (h : V_impl_Colouring_recoloured_1 i0 j1 x2 x3 w K) : Fc Try.prog 88 #[(.int .i64 i0), (.int .i64 j1), x2, x3] w (.one (.int .i64)) K :=
  fn_ok follows (sound_none _) Try.func88 name_impl_Colouring_recoloured_1 body_impl_Colouring_recoloured_1 Try.ntmps88 [(.int .i64 i0), (.int .i64 j1), x2, x3] (Eq.mpr (eq_impl_Colouring_recoloured_1 i0 j1 x2 x3 w K) h)

-- uses S8Rec
theorem c_impl_Colouring_recoloured_1 {p q x of : Value} {c : Col} {i j : Int} {w : World} {K : Int → World → Prop} (f : Int → Int) (hp : Cell w p of) (hq : Cell w q x) (hc : c.Ok) (hx : ColAt w x c) (i0 : 0 ≤ i) (i1 : i < j) (i2 : j < 17)
    (hof : ∀ (w' : World) (K' : Int → World → Prop), Below w.heap.size w w' → (∀ w'', Below w'.heap.size w' w'' → K' (f (c.e (num i j).toNat)) w'') → callV Try.prog of #[.int .i64 (c.e (num i j).toNat)] w' (.one (.int .i64)) K')
    (hK : ∀ w', Below w.heap.size w w' → K (f (c.e (num i j).toNat)) w') : Fc Try.prog F_impl_Colouring_recoloured_1 #[.int .i64 i, .int .i64 j, p, q] w (.one (.int .i64)) K := by
  refine walk_impl_Colouring_recoloured_1 _ _ _ _ ?_
  intro w1 hd
  have q1 := hd.below w.heap.size
  refine ld (k := .any) y1F (hp.keep q1) (ld (k := .any) y1PC (hq.keep q1) (c_impl_Colouring_at hc (hx.keep q1) i0 (by omega) (by omega) i2 (by omega) fun w2 q2 => ⟨q2, hof w2 _ (q1.trans (q2.mono q1.size)) fun w3 q3 => ?_⟩))
  exact ⟨q2.trans (q3.mono q2.size), hK w3 ((q1.trans (q2.mono q1.size)).trans (q3.mono (by have := q1.size; have := q2.size; omega)))⟩

end Go.Proofs.Ytkadckhealbdaaa

/- The reading of impl_Colouring_put, and its contract. No condition. -/
namespace Go.Proofs.Ytkadckhealbdaaa
open Go Go.RowKit Eng Mem
set_option linter.unusedVariables false
set_option maxRecDepth 100000
def V_impl_Colouring_put (x0 : Value) (i1 : Int) (j2 : Int) (c3 : Int) (w : World) (K : Unit → World → Prop) : Prop :=
  (∀ w_1, Drew w w_1 → (QAll Try.prog (convert 2 5 (.int .i64 c3)) (.int .u8) fun (x13_2 : Int) => (NilOk x0 ∧ (QAll Try.prog (Instr.fieldAt 25 x0 2) .any fun (x15_3 : Value) => (Fc Try.prog 115 #[(.int .i64 i1), (.int .i64 j2)] w_1 (.one (.int .i64)) fun (x11_5 : Int) w_4 => (QAll Try.prog (Instr.indexAt 22 x15_3 (.int .i64 x11_5)) .any fun (x16_6 : Value) => (PrU Try.prog (Instr.storeAt 5 x16_6 (.int .u8 x13_2)) w_4 fun w_7 => K () w_7)))))))

theorem eq_impl_Colouring_put (x0 : Value) (i1 : Int) (j2 : Int) (c3 : Int) (w : World) (K : Unit → World → Prop) :
    W Try.prog ty (fun _ _ _ _ => False) (bodyOf Try.f114) (fnPost Try.prog Try.f114.results.toList .unit K) (frame0 [x0, (.int .i64 i1), (.int .i64 j2), (.int .i64 c3)] 17) w = V_impl_Colouring_put x0 i1 j2 c3 w K := by
  kernel_rfl

theorem body_impl_Colouring_put : Try.f114.body = some (bodyOf Try.f114) := by kernel_rfl
theorem name_impl_Colouring_put : (Try.f114.name == "runtime.NumGoroutine") = false := by kernel_rfl

theorem walk_impl_Colouring_put (x0 : Value) (i1 : Int) (j2 : Int) (c3 : Int) {w : World} {K : Unit → World → Prop} (h : V_impl_Colouring_put x0 i1 j2 c3 w K) : Fc Try.prog 114 #[x0, (.int .i64 i1), (.int .i64 j2), (.int .i64 c3)] w .unit K :=
  fn_ok follows (sound_none _) Try.func114 name_impl_Colouring_put body_impl_Colouring_put Try.ntmps114 [x0, (.int .i64 i1), (.int .i64 j2), (.int .i64 c3)] (Eq.mpr (eq_impl_Colouring_put x0 i1 j2 c3 w K) h)

-- uses S5Made
theorem c_impl_Colouring_put {b : Nat} {n k : Int} {es : List Int} {i j c : Int} {w : World} {K : Unit → World → Prop} (h : BlkC w b ⟨n, k, es⟩) (hl : es.length = 136) (h0 : 0 ≤ i) (h1 : i < 17) (k0 : 0 ≤ j) (k1 : j < 17) (hne : i ≠ j) (c0 : 0 ≤ c) (c1 : c < 256)
    (hK : ∀ w', Mod [b] w w' → BlkC w' b ⟨n, k, es.set (num i j).toNat c⟩ → K () w') :
    Fc Try.prog F_impl_Colouring_put #[ptr b 0, .int .i64 i, .int .i64 j, .int .i64 c] w .unit K := by
  refine walk_impl_Colouring_put _ _ _ _ ?_
  intro w1 hd
  have hb := hd.below w.heap.size
  have hx : BlkC w1 b ⟨n, k, es⟩ := below_at hb h (at_lt h)
  have hn := num_lt h0 h1 k0 k1 (Int.le_refl _) hne
  rw [show edgesOf 17 = 136 from by decide] at hn
  refine int_u8 c0 c1 ⟨.inl ⟨_, rfl⟩, fldp f2 (c_impl_number h0 (by omega) k0 (by omega) (put_e hx hl hn.1 hn.2 fun w2 m hs hb2 => ?_))⟩
  exact hK w2 ((mod_of_below hb [b]).trans m) hb2

end Go.Proofs.Ytkadckhealbdaaa

/- The reading of impl_made, and its contract. No condition. -/
namespace Go.Proofs.Ytkadckhealbdaaa
open Go Go.RowKit Eng Mem
set_option linter.unusedVariables false
set_option maxRecDepth 100000
def B_impl_made_6 (of2 : Value) (x6 : Value) (x7 : Value) (j8 : Int) (x13 : Int) (x14 : Int) (x17 : Int) (x18 : Int) (N : (Value × Value × Value × Int × Int × Int × Int) → Int → World → Prop) (D2 : (Value × Value × Value × Int × Int × Unit) → World → Prop) (w : World) : Prop :=
  (((decide (x18 < x17)) = true → (callV Try.prog of2 #[(.int .i64 x18), (.int .i64 j8)] w (.one (.int .i64)) fun (x26_10 : Int) w_9 => (Fc Try.prog 114 #[x7, (.int .i64 x18), (.int .i64 j8), (.int .i64 x26_10)] w_9 .unit fun (x27_12 : Unit) w_11 => N ((of2 : Value), (x6 : Value), (x7 : Value), j8, x13, x14, x17) (IntKind.i64.wrap (x18 + (1 : Int))) w_11))) ∧ ((decide (x18 < x17)) = false → D2 ((of2 : Value), (x6 : Value), (x7 : Value), x13, x14, ()) w))

abbrev L_impl_made_6_e2 : List Slot := [.junk, .junk, .k .any, .junk, .junk, .junk, .k .any, .k .any, .junk, .junk, .junk, .junk, .junk, .k (.int .i64), .k (.int .i64), .junk, .junk, .junk, .junk, .junk, .junk, .junk, .junk, .junk, .junk, .junk, .junk, .junk, .junk, .junk, .junk]

abbrev L_impl_made_6_sp : List Slot := [.junk, .junk, .k .any, .junk, .junk, .junk, .k .any, .k .any, .k (.int .i64), .junk, .junk, .junk, .junk, .k (.int .i64), .k (.int .i64), .junk, .junk, .k (.int .i64), .k (.int .i64), .junk, .junk, .junk, .junk, .junk, .junk, .junk, .junk, .junk, .junk, .junk, .junk]
abbrev L_impl_made_6_ex : List (Nat × List Slot) := [(2, L_impl_made_6_e2)]
abbrev L_impl_made_6_rt : List Slot := [.junk, .junk, .junk, .junk, .junk, .junk, .junk, .junk, .junk, .junk, .junk, .junk, .junk, .junk, .junk, .junk, .junk, .junk, .junk, .junk, .junk, .junk, .junk, .junk, .junk, .junk, .junk, .junk, .junk, .junk, .junk]

def L_impl_made_6_b (Φ : Post) (u : (Value × Value × Value × Int × Int × Int × Int)) (N : (Value × Value × Value × Int × Int × Int × Int) → Int → World → Prop) (s : Int) (w : World) : Prop :=
  B_impl_made_6 u.1 u.2.1 u.2.2.1 u.2.2.2.1 u.2.2.2.2.1 u.2.2.2.2.2.1 u.2.2.2.2.2.2 s N (fun v w => ∀ j : Nat → Value, Φ (.exit 2) (mkT j 0 L_impl_made_6_e2 v) w) w

theorem L_impl_made_6_eq (j : Nat → Value) (u : (Value × Value × Value × Int × Int × Int × Int)) (s : Int) (N : (Value × Value × Value × Int × Int × Int × Int) → Int → World → Prop) (D2 : (Value × Value × Value × Int × Int × Unit) → World → Prop) (R : (Unit) → World → Prop) (w : World) :
    W Try.prog ty (fun _ _ _ _ => False) (loopAt Try.f87 6) (loopPost L_impl_made_6_sp [(2, (⟨L_impl_made_6_e2, D2⟩ : Door))] ⟨L_impl_made_6_rt, R⟩ (fun v w => N ((fun v => (v.1, v.2.1, v.2.2.1, v.2.2.2.1, v.2.2.2.2.1, v.2.2.2.2.2.1, v.2.2.2.2.2.2.1)) v) ((fun v => v.2.2.2.2.2.2.2.1) v) w)) (mkT j 0 L_impl_made_6_sp ((fun u s => (u.1, u.2.1, u.2.2.1, u.2.2.2.1, u.2.2.2.2.1, u.2.2.2.2.2.1, u.2.2.2.2.2.2, s, ())) u s)) w =
    B_impl_made_6 u.1 u.2.1 u.2.2.1 u.2.2.2.1 u.2.2.2.2.1 u.2.2.2.2.2.1 u.2.2.2.2.2.2 s N D2 w := by
  kernel_rfl

def O_impl_made_1 : Code → Post → List SV → World → Prop :=
  orc 6 (loopAt Try.f87 6) L_impl_made_6_sp (fun Φ fr w => LOOP (U := (Value × Value × Value × Int × Int × Int × Int)) (S := Int) ((fun v => (v.1, v.2.1, v.2.2.1, v.2.2.2.1, v.2.2.2.2.1, v.2.2.2.2.2.1, v.2.2.2.2.2.2.1)) (extT L_impl_made_6_sp fr)) (L_impl_made_6_b Φ ((fun v => (v.1, v.2.1, v.2.2.1, v.2.2.2.1, v.2.2.2.2.1, v.2.2.2.2.2.1, v.2.2.2.2.2.2.1)) (extT L_impl_made_6_sp fr))) ((fun v => v.2.2.2.2.2.2.2.1) (extT L_impl_made_6_sp fr)) w) (fun _ _ _ _ => False)

theorem O_impl_made_1_ok : Sound Try.prog O_impl_made_1 :=
  orc_ok (sound_none _) fun Φ fr w hs h => loop_ok (ty := ty) follows (sound_none _) L_impl_made_6_sp (fun v => (v.1, v.2.1, v.2.2.1, v.2.2.2.1, v.2.2.2.2.1, v.2.2.2.2.2.1, v.2.2.2.2.2.2.1)) (fun v => v.2.2.2.2.2.2.2.1) (fun u s => (u.1, u.2.1, u.2.2.1, u.2.2.2.1, u.2.2.2.2.1, u.2.2.2.2.2.1, u.2.2.2.2.2.2, s, ())) (fun _ => rfl) L_impl_made_6_ex L_impl_made_6_rt (body := L_impl_made_6_b Φ) (fun j u s w N hb => by
    have e := L_impl_made_6_eq j u s N (doorOf Φ (.exit 2) L_impl_made_6_e2).D (doorOf Φ .ret L_impl_made_6_rt).D w
    exact Eq.mpr e hb) hs h

def B_impl_made_3 (of2 : Value) (x6 : Value) (x7 : Value) (x13 : Int) (x14 : Int) (N : (Value × Value × Value × Int) → Int → World → Prop) (D0 : (Value × Value × Unit) → World → Prop) (w : World) : Prop :=
  (((decide (x14 < x13)) = true → (At (loopAt Try.f87 6) (loopAt Try.f87 6) (LOOP (U := (Value × Value × Value × Int × Int × Int × Int)) (S := Int) ((of2 : Value), (x6 : Value), (x7 : Value), x14, x13, x14, x14) (fun N_16 s_17 w_18 => B_impl_made_6 (of2 : Value) (x6 : Value) (x7 : Value) x14 x13 x14 x14 s_17 N_16 (fun (v_13 : (Value × Value × Value × Int × Int × Unit)) w_14 => ∀ _j_15 : Nat → Value, N ((v_13.1 : Value), (v_13.2.1 : Value), (v_13.2.2.1 : Value), v_13.2.2.2.1) (IntKind.i64.wrap (v_13.2.2.2.2.1 + (1 : Int))) w_14) w_18) (0 : Int) w))) ∧ ((decide (x14 < x13)) = false → D0 ((x6 : Value), (x7 : Value), ()) w))

abbrev L_impl_made_3_e0 : List Slot := [.junk, .junk, .junk, .junk, .junk, .junk, .k .any, .k .any, .junk, .junk, .junk, .junk, .junk, .junk, .junk, .junk, .junk, .junk, .junk, .junk, .junk, .junk, .junk, .junk, .junk, .junk, .junk, .junk, .junk, .junk, .junk]

abbrev L_impl_made_3_sp : List Slot := [.junk, .junk, .k .any, .junk, .junk, .junk, .k .any, .k .any, .junk, .junk, .junk, .junk, .junk, .k (.int .i64), .k (.int .i64), .junk, .junk, .junk, .junk, .junk, .junk, .junk, .junk, .junk, .junk, .junk, .junk, .junk, .junk, .junk, .junk]
abbrev L_impl_made_3_ex : List (Nat × List Slot) := [(0, L_impl_made_3_e0)]
abbrev L_impl_made_3_rt : List Slot := [.junk, .junk, .junk, .junk, .junk, .junk, .junk, .junk, .junk, .junk, .junk, .junk, .junk, .junk, .junk, .junk, .junk, .junk, .junk, .junk, .junk, .junk, .junk, .junk, .junk, .junk, .junk, .junk, .junk, .junk, .junk]

def L_impl_made_3_b (Φ : Post) (u : (Value × Value × Value × Int)) (N : (Value × Value × Value × Int) → Int → World → Prop) (s : Int) (w : World) : Prop :=
  B_impl_made_3 u.1 u.2.1 u.2.2.1 u.2.2.2 s N (fun v w => ∀ j : Nat → Value, Φ (.exit 0) (mkT j 0 L_impl_made_3_e0 v) w) w

theorem L_impl_made_3_eq (j : Nat → Value) (u : (Value × Value × Value × Int)) (s : Int) (N : (Value × Value × Value × Int) → Int → World → Prop) (D0 : (Value × Value × Unit) → World → Prop) (R : (Unit) → World → Prop) (w : World) :
    W Try.prog ty O_impl_made_1 (loopAt Try.f87 3) (loopPost L_impl_made_3_sp [(0, (⟨L_impl_made_3_e0, D0⟩ : Door))] ⟨L_impl_made_3_rt, R⟩ (fun v w => N ((fun v => (v.1, v.2.1, v.2.2.1, v.2.2.2.1)) v) ((fun v => v.2.2.2.2.1) v) w)) (mkT j 0 L_impl_made_3_sp ((fun u s => (u.1, u.2.1, u.2.2.1, u.2.2.2, s, ())) u s)) w =
    B_impl_made_3 u.1 u.2.1 u.2.2.1 u.2.2.2 s N D0 w := by
  kernel_rfl

def O_impl_made_2 : Code → Post → List SV → World → Prop :=
  orc 3 (loopAt Try.f87 3) L_impl_made_3_sp (fun Φ fr w => LOOP (U := (Value × Value × Value × Int)) (S := Int) ((fun v => (v.1, v.2.1, v.2.2.1, v.2.2.2.1)) (extT L_impl_made_3_sp fr)) (L_impl_made_3_b Φ ((fun v => (v.1, v.2.1, v.2.2.1, v.2.2.2.1)) (extT L_impl_made_3_sp fr))) ((fun v => v.2.2.2.2.1) (extT L_impl_made_3_sp fr)) w) O_impl_made_1

theorem O_impl_made_2_ok : Sound Try.prog O_impl_made_2 :=
  orc_ok O_impl_made_1_ok fun Φ fr w hs h => loop_ok (ty := ty) follows O_impl_made_1_ok L_impl_made_3_sp (fun v => (v.1, v.2.1, v.2.2.1, v.2.2.2.1)) (fun v => v.2.2.2.2.1) (fun u s => (u.1, u.2.1, u.2.2.1, u.2.2.2, s, ())) (fun _ => rfl) L_impl_made_3_ex L_impl_made_3_rt (body := L_impl_made_3_b Φ) (fun j u s w N hb => by
    have e := L_impl_made_3_eq j u s N (doorOf Φ (.exit 0) L_impl_made_3_e0).D (doorOf Φ .ret L_impl_made_3_rt).D w
    exact Eq.mpr e hb) hs h

def V_impl_made (n0 : Int) (k1 : Int) (of2 : Value) (w : World) (K : Value → World → Prop) : Prop :=
  (Pr Try.prog (Instr.alloc 25 true (.tuple #[])) w (.one .any) fun (x6_2 : Value) w_1 => (Pr Try.prog (Instr.build 25 #[(0, (.int .i64 n0)), (1, (.int .i64 k1))]) w_1 (.one .any) fun (x12_4 : Value) w_3 => (Pr Try.prog (Instr.alloc 25 true (.tuple #[])) w_3 (.one .any) fun (x7_6 : Value) w_5 => (PrU Try.prog (Instr.storeAt 25 x7_6 x12_4) w_5 fun w_7 => (At (loopAt Try.f87 3) (loopAt Try.f87 3) (LOOP (U := (Value × Value × Value × Int)) (S := Int) ((of2 : Value), (x6_2 : Value), (x7_6 : Value), n0) (fun N_26 s_27 w_28 => B_impl_made_3 (of2 : Value) (x6_2 : Value) (x7_6 : Value) n0 s_27 N_26 (fun (v_19 : (Value × Value × Unit)) w_20 => ∀ _j_21 : Nat → Value, (QSub Try.prog (Instr.loadAt 25 v_19.2.1) w_20 .any fun (x30_22 : Value) => (PrU Try.prog (Instr.storeAt 25 v_19.1 x30_22) w_20 fun w_23 => (QSub Try.prog (Instr.loadAt 25 v_19.1) w_23 .any fun (r_25 : Value) => K (r_25 : Value) w_23)))) w_28) (0 : Int) w_7))))))

theorem eq_impl_made (n0 : Int) (k1 : Int) (of2 : Value) (w : World) (K : Value → World → Prop) :
    W Try.prog ty O_impl_made_2 (bodyOf Try.f87) (fnPost Try.prog Try.f87.results.toList (.one .any) K) (frame0 [(.int .i64 n0), (.int .i64 k1), of2] 31) w = V_impl_made n0 k1 of2 w K := by
  kernel_rfl

theorem body_impl_made : Try.f87.body = some (bodyOf Try.f87) := by kernel_rfl
theorem name_impl_made : (Try.f87.name == "runtime.NumGoroutine") = false := by kernel_rfl

theorem walk_impl_made (n0 : Int) (k1 : Int) (of2 : Value) {w : World} {K : Value → World → Prop} (h : V_impl_made n0 k1 of2 w K) : Fc Try.prog 87 #[(.int .i64 n0), (.int .i64 k1), of2] w (.one .any) K :=
  fn_ok follows O_impl_made_2_ok Try.func87 name_impl_made body_impl_made Try.ntmps87 [(.int .i64 n0), (.int .i64 k1), of2] (Eq.mpr (eq_impl_made n0 k1 of2 w K) h)

-- uses S5Made
theorem c_impl_made {n k : Int} (f : Nat → Int) {of : Value} {w : World} {K : Value → World → Prop} (n0 : 0 ≤ n) (n1 : n ≤ 17) (hk : I64 k) (hf : ∀ e, e < (edgesOf n).toNat → 0 ≤ f e ∧ f e < 256)
    (hof : ∀ i j : Int, 0 ≤ i → i < j → j < n → ∀ (w' : World) (K' : Int → World → Prop), Below w.heap.size w w' → (∀ w'', Below w'.heap.size w' w'' → K' (f (enum i j).toNat) w'') → callV Try.prog of #[.int .i64 i, .int .i64 j] w' (.one (.int .i64)) K')
    (hK : ∀ w', Below w.heap.size w w' → K (colF n k f).val w') : Fc Try.prog F_impl_made #[.int .i64 n, .int .i64 k, of] w (.one .any) K := by
  refine walk_impl_made _ _ _ (c_alloc fun p w1 hb1 hv1 => build2 (allocA yC fun b w2 n2 => ?_))
  have e2 := n2.here; have s2 := n2.size; have hs1 := hb1.size
  have hne := hv1.ne (Nat.le_of_eq e2.symm)
  refine stA0 yC n2.at_ (by simp [Col.cells, zC, zA]) (by simp [Col.cells, zC, zA]) (Col.cells_one _) fun w3 m3 s3 h3 => ?_
  have hv3 := (hv1.keep n2.below).mod m3 hne
  have hb3 : Below w.heap.size w w3 := (hb1.trans (n2.below.mono hs1)).trans (m3.below (by omega) (by simp; omega))
  refine lp (fun j w' => 0 ≤ j ∧ j ≤ n ∧ Below w.heap.size w w' ∧ CVar w.heap.size w' p ∧ BlkC w' b ⟨n, k, esF f (edgesOf j).toNat⟩) (fun j _ => (n - j).toNat)
    ⟨by omega, by omega, hb3, hv3, by rw [show (edgesOf 0).toNat = 0 from by decide, esF_0]; exact h3⟩ ?_
  rintro j w4 N ⟨j0, j1, hb4, hv4, h4⟩ hN
  unfold B_impl_made_3
  refine ⟨fun hlt => ?_, fun hge => ?_⟩
  · have hlt := dec_t hlt
    have ej := edges_bd j0 (by omega)
    refine lp (fun i w' => 0 ≤ i ∧ i ≤ j ∧ Below w.heap.size w w' ∧ CVar w.heap.size w' p ∧ BlkC w' b ⟨n, k, esF f (edgesOf j + i).toNat⟩) (fun i _ => (j - i).toNat)
      ⟨by omega, by omega, hb4, hv4, by rw [Int.add_zero]; exact h4⟩ ?_
    rintro i w5 N' ⟨i0, i1, hb5, hv5, h5⟩ hN'
    unfold B_impl_made_6
    refine ⟨fun hlt2 => ?_, fun hge2 => ?_⟩
    · have hlt2 := dec_t hlt2
      have hen := enum_lt i0 hlt2 hlt n1
      have hen2 := edges_bd n0 n1
      have hff := hf (enum i j).toNat (by omega)
      refine hof i j i0 hlt2 hlt w5 _ hb5 fun w6 hb6 => ?_
      have h6 : BlkC w6 b ⟨n, k, esF f (edgesOf j + i).toNat⟩ := below_at hb6 h5 (at_lt h5)
      refine c_impl_Colouring_put h6 (esF_len _ _) i0 (by omega) j0 (by omega) (by omega) hff.1 hff.2 fun w7 m7 h7 => ?_
      rw [wrap_small (by omega) (by omega)]
      have hs5 := hb5.size; have hs6 := hb6.size; have hlb := at_lt h5
      refine hN' _ _ ⟨by omega, by omega, (hb5.trans (hb6.mono hs5)).trans (m7.below (by omega) (by simp; omega)), (hv5.keep hb6).mod m7 hne, ?_⟩ (by omega)
      rw [num_of hlt2] at h7
      have he : (enum i j).toNat = (edgesOf j + i).toNat := rfl
      rw [he, esF_set f (by rw [← he]; omega)] at h7
      rwa [show (edgesOf j + (i + 1)).toNat = (edgesOf j + i).toNat + 1 from by omega]
    · have hge2 := dec_f hge2
      have : i = j := by omega
      subst this
      intro _
      show N _ (IntKind.i64.wrap (i + 1)) w5
      rw [wrap_small (by omega) (by omega)]
      refine hN _ _ ⟨by omega, by omega, hb5, hv5, ?_⟩ (by omega)
      rw [edgesOf_succ]; exact h5
  · have hge := dec_f hge
    have : j = n := by omega
    subst this
    intro _
    have hok : (colF j k f).Ok := colF_ok ⟨by omega, by omega⟩ hk hf
    have hs4 := hb4.size
    refine col_all hok (blk_row h4) (c_ret hok hv4 hs4 fun w5 hb5 => hK w5 (hb4.trans hb5))

end Go.Proofs.Ytkadckhealbdaaa

/- The reading of impl_Colouring_recoloured, and its contract. No condition. -/
namespace Go.Proofs.Ytkadckhealbdaaa
open Go Go.RowKit Eng Mem
set_option linter.unusedVariables false
set_option maxRecDepth 100000
def V_impl_Colouring_recoloured (x0 : Value) (k1 : Int) (of2 : Value) (w : World) (K : Value → World → Prop) : Prop :=
  (Pr Try.prog (Instr.box 77 x0) w (.one .any) fun (x3_2 : Value) w_1 => (Pr Try.prog (Instr.box 59 of2) w_1 (.one .any) fun (of5_4 : Value) w_3 => (Pr Try.prog (Instr.alloc 25 true (.tuple #[])) w_3 (.one .any) fun (x6_6 : Value) w_5 => (QSub Try.prog (Instr.loadAt 77 x3_2) w_5 .any fun (x7_7 : Value) => (NilOk x7_7 ∧ (QAll Try.prog (Instr.fieldAt 25 x7_7 0) .any fun (x9_8 : Value) => (QSub Try.prog (Instr.loadAt 2 x9_8) w_5 (.int .i64) fun (x10_9 : Int) => (Fc Try.prog 87 #[(.int .i64 x10_9), (.int .i64 k1), (.func (.func 88) #[] #[of5_4, x3_2])] w_5 (.one .any) fun (x13_11 : Value) w_10 => (PrU Try.prog (Instr.storeAt 25 x6_6 x13_11) w_10 fun w_12 => (QSub Try.prog (Instr.loadAt 25 x6_6) w_12 .any fun (r_14 : Value) => K (r_14 : Value) w_12))))))))))

theorem eq_impl_Colouring_recoloured (x0 : Value) (k1 : Int) (of2 : Value) (w : World) (K : Value → World → Prop) :
    W Try.prog ty (fun _ _ _ _ => False) (bodyOf Try.f49) (fnPost Try.prog Try.f49.results.toList (.one .any) K) (frame0 [x0, (.int .i64 k1), of2] 14) w = V_impl_Colouring_recoloured x0 k1 of2 w K := by
  kernel_rfl

theorem body_impl_Colouring_recoloured : Try.f49.body = some (bodyOf Try.f49) := by kernel_rfl
theorem name_impl_Colouring_recoloured : (Try.f49.name == "runtime.NumGoroutine") = false := by kernel_rfl

theorem walk_impl_Colouring_recoloured (x0 : Value) (k1 : Int) (of2 : Value) {w : World} {K : Value → World → Prop} (h : V_impl_Colouring_recoloured x0 k1 of2 w K) : Fc Try.prog 49 #[x0, (.int .i64 k1), of2] w (.one .any) K :=
  fn_ok follows (sound_none _) Try.func49 name_impl_Colouring_recoloured body_impl_Colouring_recoloured Try.ntmps49 [x0, (.int .i64 k1), of2] (Eq.mpr (eq_impl_Colouring_recoloured x0 k1 of2 w K) h)

-- uses S8Rec
theorem c_impl_Colouring_recoloured {x of : Value} {c : Col} {k : Int} {w : World} {K : Value → World → Prop} (f : Int → Int) (hc : c.Ok) (hI : c.Is) (hx : ColAt w x c) (hk : I64 k) (hf : ∀ e, 0 ≤ e → e < c.k → 0 ≤ f e ∧ f e < 256) (ho : of.cells = #[of])
    (hof : ∀ e, 0 ≤ e → e < c.k → ∀ (w' : World) (K' : Int → World → Prop), Below w.heap.size w w' → (∀ w'', Below w'.heap.size w' w'' → K' (f e) w'') → callV Try.prog of #[.int .i64 e] w' (.one (.int .i64)) K')
    (hK : ∀ w', Below w.heap.size w w' → K (recF c k f).val w') : Fc Try.prog F_impl_Colouring_recoloured #[x, .int .i64 k, of] w (.one .any) K := by
  have hxc : x.cells = #[x] := by obtain ⟨a, rfl⟩ := hx.isPtr; rfl
  have n0 := hI.1; have n1 := hI.2.1
  refine walk_impl_Colouring_recoloured _ _ _ (box [x] (by rw [hxc]) fun b1 w1 m1 => box [of] (by rw [ho]) fun b2 w2 m2 => c_alloc fun p w3 q3 hv => ?_)
  have q1 := m1.below
  have q2 := q1.trans (m2.below.mono q1.size)
  have q13 := q2.trans (q3.mono q2.size)
  have cx : Cell w3 (ptr b1 0) x := ((row_all (cs := [_]) m1.at_).keep m2.below).keep q3
  have co : Cell w3 (ptr b2 0) of := (row_all (cs := [_]) m2.at_).keep q3
  have hs2 := q2.size; have hs3 := q3.size; have hs := q13.size
  have hx3 := hx.keep q13
  have hb : ∀ e, e < (edgesOf c.n).toNat → 0 ≤ f (c.e e) ∧ f (c.e e) < 256 := fun e he => by
    have := is_e hI hc he
    exact hf _ this.1 this.2
  refine ld (k := .any) y1PC cx ⟨hx.nonnil, col_n hx3 (c_impl_made (fun e => f (c.e e)) (by omega) n1 hk hb (fun i j i0 i1 i2 w' K' hb' hk' => cv rfl ?_) fun w4 q4 => ?_)⟩
  · rw [← num_of i1] at hk'
    have hnum := num_lt i0 (by omega) (by omega) i2 n1 (show i ≠ j by omega)
    have he := is_e hI hc (e := (num i j).toNat) (by omega)
    exact c_impl_Colouring_recoloured_1 f (co.keep hb') (cx.keep hb') hc (hx3.keep hb') i0 i1 (by omega) (fun w'' K'' q'' hk'' => hof _ he.1 he.2 w'' K'' ((q13.trans (hb'.mono hs)).trans (q''.mono (by have := hb'.size; omega))) hk'') hk'
  · have hs4 := q4.size
    exact c_ret (recF_ok hc hk hb) (hv.keep q4) (by omega) fun w5 q5 => hK w5 ((q13.trans (q4.mono hs)).trans (q5.mono hs2))

end Go.Proofs.Ytkadckhealbdaaa

/- The reading of impl_Colouring_points_1, and its contract. No condition. -/
namespace Go.Proofs.Ytkadckhealbdaaa
open Go Go.RowKit Eng Mem
set_option linter.unusedVariables false
set_option maxRecDepth 100000
def V_impl_Colouring_points_1 (x0 : Int) (w : World) (K : Bool → World → Prop) : Prop :=
  K true w

theorem eq_impl_Colouring_points_1 (x0 : Int) (w : World) (K : Bool → World → Prop) :
    W Try.prog ty (fun _ _ _ _ => False) (bodyOf Try.f136) (fnPost Try.prog Try.f136.results.toList (.one .bool) K) (frame0 [(.int .i64 x0)] 3) w = V_impl_Colouring_points_1 x0 w K := by
  kernel_rfl

theorem body_impl_Colouring_points_1 : Try.f136.body = some (bodyOf Try.f136) := by kernel_rfl
theorem name_impl_Colouring_points_1 : (Try.f136.name == "runtime.NumGoroutine") = false := by kernel_rfl

theorem walk_impl_Colouring_points_1 (x0 : Int) {w : World} {K : Bool → World → Prop} (h : V_impl_Colouring_points_1 x0 w K) : Fc Try.prog 136 #[(.int .i64 x0)] w (.one .bool) K :=
  fn_ok follows (sound_none _) Try.func136 name_impl_Colouring_points_1 body_impl_Colouring_points_1 Try.ntmps136 [(.int .i64 x0)] (Eq.mpr (eq_impl_Colouring_points_1 x0 w K) h)

theorem c_impl_Colouring_points_1 {i : Int} {w : World} {K : Bool → World → Prop} (hK : K true w) : Fc Try.prog F_impl_Colouring_points_1 #[.int .i64 i] w (.one .bool) K := walk_impl_Colouring_points_1 _ hK

end Go.Proofs.Ytkadckhealbdaaa

/- The reading of impl_Colouring_that, and its contract. No condition. -/
namespace Go.Proofs.Ytkadckhealbdaaa
open Go Go.RowKit Eng Mem
set_option linter.unusedVariables false
set_option maxRecDepth 100000
def B_impl_Colouring_that_3 (so1 : Value) (x11 : Int) (out5 : Value) (x12 : Int) (N : (Value × Int) → (Value × Int) → World → Prop) (D0 : (Value × Unit) → World → Prop) (w : World) : Prop :=
  (((decide (x12 < x11)) = true → (callV Try.prog so1 #[(.int .i64 x12)] w (.one .bool) fun (x17_6 : Bool) w_5 => ((x17_6 = true → (Pr Try.prog (Instr.buildSlice 31 1 #[(0, (.int .i64 x12))]) w_5 (.one .any) fun (x20_8 : Value) w_7 => (Pr Try.prog (Builtin.append_ #[31, 31] 31 #[out5, x20_8]) w_7 (.one .any) fun (x21_10 : Value) w_9 => N ((so1 : Value), x11) ((x21_10 : Value), (IntKind.i64.wrap (x12 + (1 : Int)))) w_9))) ∧ (x17_6 = false → N ((so1 : Value), x11) ((out5 : Value), (IntKind.i64.wrap (x12 + (1 : Int)))) w_5)))) ∧ ((decide (x12 < x11)) = false → D0 ((out5 : Value), ()) w))

abbrev L_impl_Colouring_that_3_e0 : List Slot := [.junk, .junk, .junk, .junk, .junk, .k .any, .junk, .junk, .junk, .junk, .junk, .junk, .junk, .junk, .junk, .junk, .junk, .junk, .junk, .junk, .junk, .junk, .junk, .junk]

abbrev L_impl_Colouring_that_3_sp : List Slot := [.junk, .k .any, .junk, .junk, .junk, .k .any, .junk, .junk, .junk, .junk, .junk, .k (.int .i64), .k (.int .i64), .junk, .junk, .junk, .junk, .junk, .junk, .junk, .junk, .junk, .junk, .junk]
abbrev L_impl_Colouring_that_3_ex : List (Nat × List Slot) := [(0, L_impl_Colouring_that_3_e0)]
abbrev L_impl_Colouring_that_3_rt : List Slot := [.junk, .junk, .junk, .junk, .junk, .junk, .junk, .junk, .junk, .junk, .junk, .junk, .junk, .junk, .junk, .junk, .junk, .junk, .junk, .junk, .junk, .junk, .junk, .junk]

def L_impl_Colouring_that_3_b (Φ : Post) (u : (Value × Int)) (N : (Value × Int) → (Value × Int) → World → Prop) (s : (Value × Int)) (w : World) : Prop :=
  B_impl_Colouring_that_3 u.1 u.2 s.1 s.2 N (fun v w => ∀ j : Nat → Value, Φ (.exit 0) (mkT j 0 L_impl_Colouring_that_3_e0 v) w) w

theorem L_impl_Colouring_that_3_eq (j : Nat → Value) (u : (Value × Int)) (s : (Value × Int)) (N : (Value × Int) → (Value × Int) → World → Prop) (D0 : (Value × Unit) → World → Prop) (R : (Unit) → World → Prop) (w : World) :
    W Try.prog ty (fun _ _ _ _ => False) (loopAt Try.f135 3) (loopPost L_impl_Colouring_that_3_sp [(0, (⟨L_impl_Colouring_that_3_e0, D0⟩ : Door))] ⟨L_impl_Colouring_that_3_rt, R⟩ (fun v w => N ((fun v => (v.1, v.2.2.1)) v) ((fun v => (v.2.1, v.2.2.2.1)) v) w)) (mkT j 0 L_impl_Colouring_that_3_sp ((fun u s => (u.1, s.1, u.2, s.2, ())) u s)) w =
    B_impl_Colouring_that_3 u.1 u.2 s.1 s.2 N D0 w := by
  kernel_rfl

def O_impl_Colouring_that_1 : Code → Post → List SV → World → Prop :=
  orc 3 (loopAt Try.f135 3) L_impl_Colouring_that_3_sp (fun Φ fr w => LOOP (U := (Value × Int)) (S := (Value × Int)) ((fun v => (v.1, v.2.2.1)) (extT L_impl_Colouring_that_3_sp fr)) (L_impl_Colouring_that_3_b Φ ((fun v => (v.1, v.2.2.1)) (extT L_impl_Colouring_that_3_sp fr))) ((fun v => (v.2.1, v.2.2.2.1)) (extT L_impl_Colouring_that_3_sp fr)) w) (fun _ _ _ _ => False)

theorem O_impl_Colouring_that_1_ok : Sound Try.prog O_impl_Colouring_that_1 :=
  orc_ok (sound_none _) fun Φ fr w hs h => loop_ok (ty := ty) follows (sound_none _) L_impl_Colouring_that_3_sp (fun v => (v.1, v.2.2.1)) (fun v => (v.2.1, v.2.2.2.1)) (fun u s => (u.1, s.1, u.2, s.2, ())) (fun _ => rfl) L_impl_Colouring_that_3_ex L_impl_Colouring_that_3_rt (body := L_impl_Colouring_that_3_b Φ) (fun j u s w N hb => by
    have e := L_impl_Colouring_that_3_eq j u s N (doorOf Φ (.exit 0) L_impl_Colouring_that_3_e0).D (doorOf Φ .ret L_impl_Colouring_that_3_rt).D w
    exact Eq.mpr e hb) hs h

def V_impl_Colouring_that (x0 : Value) (so1 : Value) (w : World) (K : Value → World → Prop) : Prop :=
  (Pr Try.prog (Instr.buildSlice 31 0 #[]) w (.one .any) fun (x7_2 : Value) w_1 => (NilOk x0 ∧ (QAll Try.prog (Instr.fieldAt 25 x0 0) .any fun (x10_3 : Value) => (QSub Try.prog (Instr.loadAt 2 x10_3) w_1 (.int .i64) fun (x11_4 : Int) => (At (loopAt Try.f135 3) (loopAt Try.f135 3) (LOOP (U := (Value × Int)) (S := (Value × Int)) ((so1 : Value), x11_4) (fun N_14 s_15 w_16 => B_impl_Colouring_that_3 (so1 : Value) x11_4 s_15.1 s_15.2 N_14 (fun (v_11 : (Value × Unit)) w_12 => ∀ _j_13 : Nat → Value, K (v_11.1 : Value) w_12) w_16) ((x7_2 : Value), (0 : Int)) w_1))))))

theorem eq_impl_Colouring_that (x0 : Value) (so1 : Value) (w : World) (K : Value → World → Prop) :
    W Try.prog ty O_impl_Colouring_that_1 (bodyOf Try.f135) (fnPost Try.prog Try.f135.results.toList (.one .any) K) (frame0 [x0, so1] 24) w = V_impl_Colouring_that x0 so1 w K := by
  kernel_rfl

theorem body_impl_Colouring_that : Try.f135.body = some (bodyOf Try.f135) := by kernel_rfl
theorem name_impl_Colouring_that : (Try.f135.name == "runtime.NumGoroutine") = false := by kernel_rfl

theorem walk_impl_Colouring_that (x0 : Value) (so1 : Value) {w : World} {K : Value → World → Prop} (h : V_impl_Colouring_that x0 so1 w K) : Fc Try.prog 135 #[x0, so1] w (.one .any) K :=
  fn_ok follows O_impl_Colouring_that_1_ok Try.func135 name_impl_Colouring_that body_impl_Colouring_that Try.ntmps135 [x0, so1] (Eq.mpr (eq_impl_Colouring_that x0 so1 w K) h)

-- uses S8Deg
-- uses S8App
theorem c_impl_Colouring_that {x so : Value} {c : Col} (p : Nat → Bool) {w : World} {K : Value → World → Prop} (hx : ColAt w x c) (n1 : c.n ≤ 17)
    (hso : ∀ j : Nat, j < c.n.toNat → ∀ (w' : World) (K' : Bool → World → Prop), Below w.heap.size w w' → (∀ w'', Below w'.heap.size w' w'' → K' (p j) w'') → callV Try.prog so #[.int .i64 (j : Int)] w' (.one .bool) K')
    (hK : ∀ v w' b, w.heap.size ≤ b → Below w.heap.size w w' → OwnI w' b v (sel p c.n.toNat) → K v w') : Fc Try.prog F_impl_Colouring_that #[x, so] w (.one .any) K := by
  refine walk_impl_Colouring_that _ _ (nilI fun b0 v0 w1 e0 q1 o0 => ⟨hx.nonnil, col_n (hx.keep q1) ?_⟩)
  refine lp (fun s w' => Below w.heap.size w w' ∧ ∃ (j b : Nat), s.2 = j ∧ (j = 0 ∨ j ≤ c.n.toNat) ∧ w.heap.size ≤ b ∧ OwnI w' b s.1 (sel p j)) (fun s _ => (17 - s.2).toNat) ⟨q1, 0, b0, rfl, .inl rfl, Nat.le_of_eq e0, o0⟩ ?_
  rintro ⟨v, t⟩ w2 N ⟨q2, j, b, hj, hjn, hb, ho⟩ hN
  simp only at hj ho
  subst hj
  unfold B_impl_Colouring_that_3
  dsimp only
  have hl := sel_len_le p j
  refine ⟨fun h => ?_, fun h => ?_⟩
  · have h := dec_t h
    refine hso j (by omega) w2 _ q2 fun w3 q3 => ?_
    have q23 := q2.trans (q3.mono q2.size)
    have o3 := ho.keep q3
    have hs := sel_succ p j
    refine ⟨fun hp => ?_, fun hp => ?_⟩
    · rw [if_pos hp] at hs
      refine appI o3 (by omega) fun v' w4 b' o4 m4 hb4 => ?_
      have := q23.size
      rw [wrap_small (by omega) (by omega)]
      refine hN _ _ ⟨q23.trans (m4.below (by omega) (by simp; omega)), j + 1, b', by simp only; omega, by omega, by omega, ?_⟩ (by simp only; omega)
      rw [hs]
      exact o4
    · rw [if_neg (by simp [hp]), List.append_nil] at hs
      rw [wrap_small (by omega) (by omega)]
      refine hN _ _ ⟨q23, j + 1, b, by simp only; omega, by omega, hb, ?_⟩ (by simp only; omega)
      rw [hs]
      exact o3
  · have h := dec_f h
    intro _
    have : j = c.n.toNat := by omega
    subst this
    exact hK v w2 b hb q2 ho

end Go.Proofs.Ytkadckhealbdaaa

/- The reading of impl_Colouring_points, and its contract. No condition. -/
namespace Go.Proofs.Ytkadckhealbdaaa
open Go Go.RowKit Eng Mem
set_option linter.unusedVariables false
set_option maxRecDepth 100000
def V_impl_Colouring_points (x0 : Value) (w : World) (K : Value → World → Prop) : Prop :=
  (Fc Try.prog 135 #[x0, (.func (.func 136) #[] #[])] w (.one .any) fun (x4_2 : Value) w_1 => K (x4_2 : Value) w_1)

theorem eq_impl_Colouring_points (x0 : Value) (w : World) (K : Value → World → Prop) :
    W Try.prog ty (fun _ _ _ _ => False) (bodyOf Try.f120) (fnPost Try.prog Try.f120.results.toList (.one .any) K) (frame0 [x0] 5) w = V_impl_Colouring_points x0 w K := by
  kernel_rfl

theorem body_impl_Colouring_points : Try.f120.body = some (bodyOf Try.f120) := by kernel_rfl
theorem name_impl_Colouring_points : (Try.f120.name == "runtime.NumGoroutine") = false := by kernel_rfl

theorem walk_impl_Colouring_points (x0 : Value) {w : World} {K : Value → World → Prop} (h : V_impl_Colouring_points x0 w K) : Fc Try.prog 120 #[x0] w (.one .any) K :=
  fn_ok follows (sound_none _) Try.func120 name_impl_Colouring_points body_impl_Colouring_points Try.ntmps120 [x0] (Eq.mpr (eq_impl_Colouring_points x0 w K) h)

-- uses S9IsoM
theorem c_impl_Colouring_points {x : Value} {c : Col} {w : World} {K : Value → World → Prop} (hx : ColAt w x c) (n1 : c.n ≤ 17)
    (hK : ∀ v w' b, w.heap.size ≤ b → Below w.heap.size w w' → OwnI w' b v (sel (fun _ => true) c.n.toNat) → K v w') : Fc Try.prog F_impl_Colouring_points #[x] w (.one .any) K :=
  walk_impl_Colouring_points _ (c_impl_Colouring_that (fun _ => true) hx n1 (fun j hj w' K' hb hk => cv rfl (c_impl_Colouring_points_1 (hk _ (Below.refl _ _)))) hK)

end Go.Proofs.Ytkadckhealbdaaa

/- The reading of impl_Colouring_degreesAt, and its contract. No condition. -/
namespace Go.Proofs.Ytkadckhealbdaaa
open Go Go.RowKit Eng Mem
set_option linter.unusedVariables false
set_option maxRecDepth 100000
def B_impl_Colouring_degreesAt_3 (x0 : Value) (i1 : Int) (out5 : Value) (x15 : Int) (x16 : Int) (N : (Value × Int × Value × Int) → Int → World → Prop) (D0 : (Value × Unit) → World → Prop) (w : World) : Prop :=
  (((decide (x16 < x15)) = true → (((x16 != i1) = true → (Fc Try.prog 89 #[x0, (.int .i64 i1), (.int .i64 x16)] w (.one (.int .i64)) fun (x26_8 : Int) w_7 => (QAll Try.prog (Instr.indexAt 31 out5 (.int .i64 x26_8)) .any fun (x27_9 : Value) => (QSub Try.prog (Instr.loadAt 2 x27_9) w_7 (.int .i64) fun (x28_10 : Int) => (QAll Try.prog (Instr.indexAt 31 out5 (.int .i64 x26_8)) .any fun (x30_11 : Value) => (PrU Try.prog (Instr.storeAt 2 x30_11 (.int .i64 (IntKind.i64.wrap (x28_10 + (1 : Int))))) w_7 fun w_12 => N ((x0 : Value), i1, (out5 : Value), x15) (IntKind.i64.wrap (x16 + (1 : Int))) w_12)))))) ∧ ((x16 != i1) = false → N ((x0 : Value), i1, (out5 : Value), x15) (IntKind.i64.wrap (x16 + (1 : Int))) w))) ∧ ((decide (x16 < x15)) = false → D0 ((out5 : Value), ()) w))

abbrev L_impl_Colouring_degreesAt_3_e0 : List Slot := [.junk, .junk, .junk, .junk, .junk, .k .any, .junk, .junk, .junk, .junk, .junk, .junk, .junk, .junk, .junk, .junk, .junk, .junk, .junk, .junk, .junk, .junk, .junk, .junk, .junk, .junk, .junk, .junk, .junk, .junk, .junk, .junk, .junk]

abbrev L_impl_Colouring_degreesAt_3_sp : List Slot := [.k .any, .k (.int .i64), .junk, .junk, .junk, .k .any, .junk, .junk, .junk, .junk, .junk, .junk, .junk, .junk, .junk, .k (.int .i64), .k (.int .i64), .junk, .junk, .junk, .junk, .junk, .junk, .junk, .junk, .junk, .junk, .junk, .junk, .junk, .junk, .junk, .junk]
abbrev L_impl_Colouring_degreesAt_3_ex : List (Nat × List Slot) := [(0, L_impl_Colouring_degreesAt_3_e0)]
abbrev L_impl_Colouring_degreesAt_3_rt : List Slot := [.junk, .junk, .junk, .junk, .junk, .junk, .junk, .junk, .junk, .junk, .junk, .junk, .junk, .junk, .junk, .junk, .junk, .junk, .junk, .junk, .junk, .junk, .junk, .junk, .junk, .junk, .junk, .junk, .junk, .junk, .junk, .junk, .junk]

def L_impl_Colouring_degreesAt_3_b (Φ : Post) (u : (Value × Int × Value × Int)) (N : (Value × Int × Value × Int) → Int → World → Prop) (s : Int) (w : World) : Prop :=
  B_impl_Colouring_degreesAt_3 u.1 u.2.1 u.2.2.1 u.2.2.2 s N (fun v w => ∀ j : Nat → Value, Φ (.exit 0) (mkT j 0 L_impl_Colouring_degreesAt_3_e0 v) w) w

theorem L_impl_Colouring_degreesAt_3_eq (j : Nat → Value) (u : (Value × Int × Value × Int)) (s : Int) (N : (Value × Int × Value × Int) → Int → World → Prop) (D0 : (Value × Unit) → World → Prop) (R : (Unit) → World → Prop) (w : World) :
    W Try.prog ty (fun _ _ _ _ => False) (loopAt Try.f134 3) (loopPost L_impl_Colouring_degreesAt_3_sp [(0, (⟨L_impl_Colouring_degreesAt_3_e0, D0⟩ : Door))] ⟨L_impl_Colouring_degreesAt_3_rt, R⟩ (fun v w => N ((fun v => (v.1, v.2.1, v.2.2.1, v.2.2.2.1)) v) ((fun v => v.2.2.2.2.1) v) w)) (mkT j 0 L_impl_Colouring_degreesAt_3_sp ((fun u s => (u.1, u.2.1, u.2.2.1, u.2.2.2, s, ())) u s)) w =
    B_impl_Colouring_degreesAt_3 u.1 u.2.1 u.2.2.1 u.2.2.2 s N D0 w := by
  kernel_rfl

def O_impl_Colouring_degreesAt_1 : Code → Post → List SV → World → Prop :=
  orc 3 (loopAt Try.f134 3) L_impl_Colouring_degreesAt_3_sp (fun Φ fr w => LOOP (U := (Value × Int × Value × Int)) (S := Int) ((fun v => (v.1, v.2.1, v.2.2.1, v.2.2.2.1)) (extT L_impl_Colouring_degreesAt_3_sp fr)) (L_impl_Colouring_degreesAt_3_b Φ ((fun v => (v.1, v.2.1, v.2.2.1, v.2.2.2.1)) (extT L_impl_Colouring_degreesAt_3_sp fr))) ((fun v => v.2.2.2.2.1) (extT L_impl_Colouring_degreesAt_3_sp fr)) w) (fun _ _ _ _ => False)

theorem O_impl_Colouring_degreesAt_1_ok : Sound Try.prog O_impl_Colouring_degreesAt_1 :=
  orc_ok (sound_none _) fun Φ fr w hs h => loop_ok (ty := ty) follows (sound_none _) L_impl_Colouring_degreesAt_3_sp (fun v => (v.1, v.2.1, v.2.2.1, v.2.2.2.1)) (fun v => v.2.2.2.2.1) (fun u s => (u.1, u.2.1, u.2.2.1, u.2.2.2, s, ())) (fun _ => rfl) L_impl_Colouring_degreesAt_3_ex L_impl_Colouring_degreesAt_3_rt (body := L_impl_Colouring_degreesAt_3_b Φ) (fun j u s w N hb => by
    have e := L_impl_Colouring_degreesAt_3_eq j u s N (doorOf Φ (.exit 0) L_impl_Colouring_degreesAt_3_e0).D (doorOf Φ .ret L_impl_Colouring_degreesAt_3_rt).D w
    exact Eq.mpr e hb) hs h

def V_impl_Colouring_degreesAt (x0 : Value) (i1 : Int) (w : World) (K : Value → World → Prop) : Prop :=
  (NilOk x0 ∧ (QAll Try.prog (Instr.fieldAt 25 x0 1) .any fun (x9_1 : Value) => (QSub Try.prog (Instr.loadAt 2 x9_1) w (.int .i64) fun (x10_2 : Int) => (Pr Try.prog (Instr.makeSlice 31 (.int .i64 x10_2) (.int .i64 x10_2)) w (.one .any) fun (x11_4 : Value) w_3 => (NilOk x0 ∧ (QAll Try.prog (Instr.fieldAt 25 x0 0) .any fun (x14_5 : Value) => (QSub Try.prog (Instr.loadAt 2 x14_5) w_3 (.int .i64) fun (x15_6 : Int) => (At (loopAt Try.f134 3) (loopAt Try.f134 3) (LOOP (U := (Value × Int × Value × Int)) (S := Int) ((x0 : Value), i1, (x11_4 : Value), x15_6) (fun N_17 s_18 w_19 => B_impl_Colouring_degreesAt_3 (x0 : Value) i1 (x11_4 : Value) x15_6 s_18 N_17 (fun (v_14 : (Value × Unit)) w_15 => ∀ _j_16 : Nat → Value, K (v_14.1 : Value) w_15) w_19) (0 : Int) w_3)))))))))

theorem eq_impl_Colouring_degreesAt (x0 : Value) (i1 : Int) (w : World) (K : Value → World → Prop) :
    W Try.prog ty O_impl_Colouring_degreesAt_1 (bodyOf Try.f134) (fnPost Try.prog Try.f134.results.toList (.one .any) K) (frame0 [x0, (.int .i64 i1)] 33) w = V_impl_Colouring_degreesAt x0 i1 w K := by
  kernel_rfl

theorem body_impl_Colouring_degreesAt : Try.f134.body = some (bodyOf Try.f134) := by kernel_rfl
theorem name_impl_Colouring_degreesAt : (Try.f134.name == "runtime.NumGoroutine") = false := by kernel_rfl

theorem walk_impl_Colouring_degreesAt (x0 : Value) (i1 : Int) {w : World} {K : Value → World → Prop} (h : V_impl_Colouring_degreesAt x0 i1 w K) : Fc Try.prog 134 #[x0, (.int .i64 i1)] w (.one .any) K :=
  fn_ok follows O_impl_Colouring_degreesAt_1_ok Try.func134 name_impl_Colouring_degreesAt body_impl_Colouring_degreesAt Try.ntmps134 [x0, (.int .i64 i1)] (Eq.mpr (eq_impl_Colouring_degreesAt x0 i1 w K) h)

-- uses S9IsoM
theorem c_impl_Colouring_degreesAt {p : Value} {x : Col} {i : Int} {w : World} {K : Value → World → Prop} (hx : x.Ok) (hI : x.Is) (ax : ColAt w p x) (i0 : 0 ≤ i) (i1 : i < x.n)
    (hK : ∀ v w' b, w.heap.size ≤ b → Below w.heap.size w w' → OwnI w' b v (degK x i x.n.toNat) → K v w') : Fc Try.prog F_impl_Colouring_degreesAt #[p, .int .i64 i] w (.one .any) K := by
  have n0 := hI.1; have n1 := hI.2.1; have k0 := hI.2.2.1; have k4 := hI.2.2.2.1
  refine walk_impl_Colouring_degreesAt _ _ ⟨ax.nonnil, col_k ax (mkI (by omega) (by omega) fun b v w1 m1 o1 => ⟨ax.nonnil, col_n (ax.keep m1.below) ?_⟩)⟩
  have q1 := m1.below
  have e1 := m1.here
  have h0 : degK x i 0 = List.replicate x.k.toNat 0 := by
    unfold degK
    apply List.ext_getElem
    · simp
    · intro a h1 h2; rw [List.getElem_replicate]; simp [degP]
  refine lp (fun s w' => Below w.heap.size w w' ∧ ∃ j : Nat, s = j ∧ j ≤ x.n.toNat ∧ OwnI w' b v (degK x i j)) (fun s _ => (17 - s).toNat) ⟨q1, 0, rfl, by omega, by rw [h0]; exact o1⟩ ?_
  rintro t w2 N ⟨q2, j, hj, hjn, ho⟩ hN
  subst hj
  unfold B_impl_Colouring_degreesAt_3
  refine ⟨fun hlt => ?_, fun hge => ?_⟩
  · have hlt := dec_t hlt
    refine ⟨fun hne => ?_, fun he => ?_⟩
    · have hne := ne_t hne
      refine c_impl_Colouring_at hx (ax.keep q2) i0 (by omega) (by omega) (by omega) (Ne.symm hne) fun w3 q3 => ?_
      have hnum := num_lt i0 i1 (show (0 : Int) ≤ j by omega) hlt n1 (Ne.symm hne)
      have hed := edges_bd (n := x.n) (by omega) n1
      have hlt' := hI.2.2.2.2 (num i j).toNat (by omega)
      rw [if_pos (by omega)] at hlt'
      have hbd := hx.e_bd (num i j).toNat
      have o3 := ho.keep q3
      have hlen := degK_len x i j
      have hdp := degP_le x i (x.e (num i j).toNat) j
      have hget := degK_get x i j (c := (x.e (num i j).toNat).toNat) (by omega)
      rw [Int.toNat_of_nonneg hbd.1] at hget
      have hset := degK_set (x := x) (i := i) (j := j) (Ne.symm hne) hbd.1 hlt'
      unfold colAt at hset
      refine atI (own_slI o3 (by omega)) hbd.1 (by omega) ?_
      have q23 := q2.trans (q3.mono q2.size)
      rw [hget, wrap_small (by omega) (by omega)]
      refine putI o3 hbd.1 (by omega) fun w4 m4 s4 o4 => ?_
      rw [wrap_small (by omega) (by omega)]
      rw [hget] at hset
      rw [hset] at o4
      have hs := q23.size
      exact hN _ _ ⟨q23.trans (m4.below (by omega) (by simp; omega)), j + 1, by omega, by omega, o4⟩ (by omega)
    · have he := ne_f he
      rw [wrap_small (by omega) (by omega)]
      refine hN _ _ ⟨q2, j + 1, by omega, by omega, ?_⟩ (by omega)
      rw [degK_same he.symm]
      exact ho
  · have hge := dec_f hge
    have : j = x.n.toNat := by omega
    subst this
    intro _
    exact hK v w2 b (by omega) q2 ho

end Go.Proofs.Ytkadckhealbdaaa

/- The reading of slices_Equal_int64_int64, and its contract. No condition. -/
namespace Go.Proofs.Ytkadckhealbdaaa
open Go Go.RowKit Eng Mem
set_option linter.unusedVariables false
set_option maxRecDepth 100000
def B_slices_Equal_int64_int64_4 (s10 : Value) (s21 : Value) (x12 : Int) (x13 : Int) (N : (Value × Value × Int) → Int → World → Prop) (D0 : (Unit) → World → Prop) (R : (Bool × Unit) → World → Prop) (w : World) : Prop :=
  (((decide (x13 < x12)) = true → (∀ w_4, Drew w w_4 → (QAll Try.prog (Instr.indexAt 31 s10 (.int .i64 x13)) .any fun (x18_5 : Value) => (QSub Try.prog (Instr.loadAt 2 x18_5) w_4 (.int .i64) fun (x19_6 : Int) => (QAll Try.prog (Instr.indexAt 31 s21 (.int .i64 x13)) .any fun (x22_7 : Value) => (QSub Try.prog (Instr.loadAt 2 x22_7) w_4 (.int .i64) fun (x23_8 : Int) => (((x19_6 != x23_8) = true → R (false, ()) w_4) ∧ ((x19_6 != x23_8) = false → N ((s10 : Value), (s21 : Value), x12) (IntKind.i64.wrap (x13 + (1 : Int))) w_4)))))))) ∧ ((decide (x13 < x12)) = false → D0 () w))

abbrev L_slices_Equal_int64_int64_4_e0 : List Slot := [.junk, .junk, .junk, .junk, .junk, .junk, .junk, .junk, .junk, .junk, .junk, .junk, .junk, .junk, .junk, .junk, .junk, .junk, .junk, .junk, .junk, .junk, .junk, .junk, .junk, .junk]

abbrev L_slices_Equal_int64_int64_4_sp : List Slot := [.k .any, .k .any, .junk, .junk, .junk, .junk, .junk, .junk, .junk, .junk, .junk, .junk, .k (.int .i64), .k (.int .i64), .junk, .junk, .junk, .junk, .junk, .junk, .junk, .junk, .junk, .junk, .junk, .junk]
abbrev L_slices_Equal_int64_int64_4_ex : List (Nat × List Slot) := [(0, L_slices_Equal_int64_int64_4_e0)]
abbrev L_slices_Equal_int64_int64_4_rt : List Slot := [.junk, .junk, .junk, .junk, .k .bool, .junk, .junk, .junk, .junk, .junk, .junk, .junk, .junk, .junk, .junk, .junk, .junk, .junk, .junk, .junk, .junk, .junk, .junk, .junk, .junk, .junk]

def L_slices_Equal_int64_int64_4_b (Φ : Post) (u : (Value × Value × Int)) (N : (Value × Value × Int) → Int → World → Prop) (s : Int) (w : World) : Prop :=
  B_slices_Equal_int64_int64_4 u.1 u.2.1 u.2.2 s N (fun v w => ∀ j : Nat → Value, Φ (.exit 0) (mkT j 0 L_slices_Equal_int64_int64_4_e0 v) w) (fun v w => ∀ j : Nat → Value, Φ .ret (mkT j 0 L_slices_Equal_int64_int64_4_rt v) w) w

theorem L_slices_Equal_int64_int64_4_eq (j : Nat → Value) (u : (Value × Value × Int)) (s : Int) (N : (Value × Value × Int) → Int → World → Prop) (D0 : (Unit) → World → Prop) (R : (Bool × Unit) → World → Prop) (w : World) :
    W Try.prog ty (fun _ _ _ _ => False) (loopAt Try.f133 4) (loopPost L_slices_Equal_int64_int64_4_sp [(0, (⟨L_slices_Equal_int64_int64_4_e0, D0⟩ : Door))] ⟨L_slices_Equal_int64_int64_4_rt, R⟩ (fun v w => N ((fun v => (v.1, v.2.1, v.2.2.1)) v) ((fun v => v.2.2.2.1) v) w)) (mkT j 0 L_slices_Equal_int64_int64_4_sp ((fun u s => (u.1, u.2.1, u.2.2, s, ())) u s)) w =
    B_slices_Equal_int64_int64_4 u.1 u.2.1 u.2.2 s N D0 R w := by
  kernel_rfl

def O_slices_Equal_int64_int64_1 : Code → Post → List SV → World → Prop :=
  orc 4 (loopAt Try.f133 4) L_slices_Equal_int64_int64_4_sp (fun Φ fr w => LOOP (U := (Value × Value × Int)) (S := Int) ((fun v => (v.1, v.2.1, v.2.2.1)) (extT L_slices_Equal_int64_int64_4_sp fr)) (L_slices_Equal_int64_int64_4_b Φ ((fun v => (v.1, v.2.1, v.2.2.1)) (extT L_slices_Equal_int64_int64_4_sp fr))) ((fun v => v.2.2.2.1) (extT L_slices_Equal_int64_int64_4_sp fr)) w) (fun _ _ _ _ => False)

theorem O_slices_Equal_int64_int64_1_ok : Sound Try.prog O_slices_Equal_int64_int64_1 :=
  orc_ok (sound_none _) fun Φ fr w hs h => loop_ok (ty := ty) follows (sound_none _) L_slices_Equal_int64_int64_4_sp (fun v => (v.1, v.2.1, v.2.2.1)) (fun v => v.2.2.2.1) (fun u s => (u.1, u.2.1, u.2.2, s, ())) (fun _ => rfl) L_slices_Equal_int64_int64_4_ex L_slices_Equal_int64_int64_4_rt (body := L_slices_Equal_int64_int64_4_b Φ) (fun j u s w N hb => by
    have e := L_slices_Equal_int64_int64_4_eq j u s N (doorOf Φ (.exit 0) L_slices_Equal_int64_int64_4_e0).D (doorOf Φ .ret L_slices_Equal_int64_int64_4_rt).D w
    exact Eq.mpr e hb) hs h

def V_slices_Equal_int64_int64 (s10 : Value) (s21 : Value) (w : World) (K : Bool → World → Prop) : Prop :=
  (QAll Try.prog (Builtin.len_ #[31] 3 #[s10]) (.int .i64) fun (x7_1 : Int) => (QAll Try.prog (Builtin.len_ #[31] 3 #[s21]) (.int .i64) fun (x9_2 : Int) => (((x7_1 != x9_2) = true → K false w) ∧ ((x7_1 != x9_2) = false → (QAll Try.prog (Builtin.len_ #[31] 3 #[s10]) (.int .i64) fun (x12_3 : Int) => (At (loopAt Try.f133 4) (loopAt Try.f133 4) (LOOP (U := (Value × Value × Int)) (S := Int) ((s10 : Value), (s21 : Value), x12_3) (fun N_15 s_16 w_17 => B_slices_Equal_int64_int64_4 (s10 : Value) (s21 : Value) x12_3 s_16 N_15 (fun (v_9 : (Unit)) w_10 => ∀ _j_11 : Nat → Value, K true w_10) (fun (v_12 : (Bool × Unit)) w_13 => ∀ _j_14 : Nat → Value, K v_12.1 w_13) w_17) (0 : Int) w)))))))

theorem eq_slices_Equal_int64_int64 (s10 : Value) (s21 : Value) (w : World) (K : Bool → World → Prop) :
    W Try.prog ty O_slices_Equal_int64_int64_1 (bodyOf Try.f133) (fnPost Try.prog Try.f133.results.toList (.one .bool) K) (frame0 [s10, s21] 26) w = V_slices_Equal_int64_int64 s10 s21 w K := by
  kernel_rfl

theorem body_slices_Equal_int64_int64 : Try.f133.body = some (bodyOf Try.f133) := by kernel_rfl
theorem name_slices_Equal_int64_int64 : (Try.f133.name == "runtime.NumGoroutine") = false := by kernel_rfl

theorem walk_slices_Equal_int64_int64 (s10 : Value) (s21 : Value) {w : World} {K : Bool → World → Prop} (h : V_slices_Equal_int64_int64 s10 s21 w K) : Fc Try.prog 133 #[s10, s21] w (.one .bool) K :=
  fn_ok follows O_slices_Equal_int64_int64_1_ok Try.func133 name_slices_Equal_int64_int64 body_slices_Equal_int64_int64 Try.ntmps133 [s10, s21] (Eq.mpr (eq_slices_Equal_int64_int64 s10 s21 w K) h)

-- uses S2Sl
theorem c_slices_Equal_int64_int64 {s t : Value} {l m : List Int} {w : World} {K : Bool → World → Prop} (hl : SlI w s l) (hm : SlI w t m) (hK : ∀ w', Below w.heap.size w w' → K (decide (l = m)) w') :
    Fc Try.prog F_slices_Equal_int64_int64 #[s, t] w (.one .bool) K := by
  refine walk_slices_Equal_int64_int64 _ _ (lenI hl (lenI hm ⟨fun hne => ?_, fun he => lenI hl ?_⟩))
  · have := hK w (Below.refl _ _)
    rwa [decide_eq_false (fun h : l = m => ne_t hne (by rw [h]))] at this
  have he := ne_f he
  have hll := hl.len
  refine lp (fun i w' => Below w.heap.size w w' ∧ ∃ k : Nat, i = k ∧ k ≤ l.length ∧ ∀ j, j < k → l.getD j 0 = m.getD j 0) (fun i _ => (l.length - i).toNat) ⟨Below.refl _ _, 0, rfl, by omega, fun j hj => absurd hj (by omega)⟩ ?_
  rintro t' w1 N ⟨q1, k, hk, hkl, hall⟩ hN
  subst hk
  unfold B_slices_Equal_int64_int64_4
  refine ⟨fun hlt => ?_, fun hge => ?_⟩
  · have hlt := dec_t hlt
    intro w2 hd
    have q2 := q1.trans (hd.below w.heap.size)
    refine atI (hl.keep q2) (by omega) hlt (atI (hm.keep q2) (by omega) (by omega) ⟨fun hne => ?_, fun heq => ?_⟩)
    · intro _
      have := hK w2 q2
      rwa [decide_eq_false (fun h : l = m => ne_t hne (by rw [h]))] at this
    · have heq := ne_f heq
      rw [Int.toNat_natCast] at heq
      rw [wrap_small (by omega) (by omega)]
      refine hN _ _ ⟨q2, k + 1, by omega, by omega, fun j hj => ?_⟩ (by omega)
      by_cases hjk : j < k
      · exact hall j hjk
      · have : j = k := by omega
        subst this; exact heq
  · have hge := dec_f hge
    have : k = l.length := by omega
    subst this
    intro _
    have := hK w1 q1
    have hlm : l = m := by
      apply List.ext_getElem (by omega)
      intro j h1 h2
      have := hall j h1
      simpa [List.getD, h1, h2] using this
    rwa [decide_eq_true hlm] at this

end Go.Proofs.Ytkadckhealbdaaa

/- The reading of impl_newTracer, and its contract. No condition. -/
namespace Go.Proofs.Ytkadckhealbdaaa
open Go Go.RowKit Eng Mem
set_option linter.unusedVariables false
set_option maxRecDepth 100000
def B_impl_newTracer_8 (x0 : Value) (y1 : Value) (t7 : Value) (i8 : Int) (x38 : Int) (x39 : Int) (x45 : Int) (x46 : Int) (N : (Value × Value × Value × Int × Int × Int × Int) → Int → World → Prop) (D2 : (Value × Value × Value × Int × Int × Unit) → World → Prop) (w : World) : Prop :=
  (((decide (x46 < x45)) = true → (∀ w_18, Drew w w_18 → (NilOk t7 ∧ (QAll Try.prog (Instr.fieldAt 123 t7 3) .any fun (x60_19 : Value) => (QAll Try.prog (Instr.indexAt 121 x60_19 (.int .i64 i8)) .any fun (x61_20 : Value) => (Fc Try.prog 134 #[x0, (.int .i64 i8)] w_18 (.one .any) fun (x54_22 : Value) w_21 => (Fc Try.prog 134 #[y1, (.int .i64 x46)] w_21 (.one .any) fun (x57_24 : Value) w_23 => (Fc Try.prog 133 #[x54_22, x57_24] w_23 (.one .bool) fun (x58_26 : Bool) w_25 => (QAll Try.prog (Instr.indexAt 120 x61_20 (.int .i64 x46)) .any fun (x62_27 : Value) => (PrU Try.prog (Instr.storeAt 4 x62_27 (.bool x58_26)) w_25 fun w_28 => N ((x0 : Value), (y1 : Value), (t7 : Value), i8, x38, x39, x45) (IntKind.i64.wrap (x46 + (1 : Int))) w_28)))))))))) ∧ ((decide (x46 < x45)) = false → D2 ((x0 : Value), (y1 : Value), (t7 : Value), x38, x39, ()) w))

abbrev L_impl_newTracer_8_e2 : List Slot := [.k .any, .k .any, .junk, .junk, .junk, .junk, .junk, .k .any, .junk, .junk, .junk, .junk, .junk, .junk, .junk, .junk, .junk, .junk, .junk, .junk, .junk, .junk, .junk, .junk, .junk, .junk, .junk, .junk, .junk, .junk, .junk, .junk, .junk, .junk, .junk, .junk, .junk, .junk, .k (.int .i64), .k (.int .i64), .junk, .junk, .junk, .junk, .junk, .junk, .junk, .junk, .junk, .junk, .junk, .junk, .junk, .junk, .junk, .junk, .junk, .junk, .junk, .junk, .junk, .junk, .junk, .junk, .junk, .junk]

abbrev L_impl_newTracer_8_sp : List Slot := [.k .any, .k .any, .junk, .junk, .junk, .junk, .junk, .k .any, .k (.int .i64), .junk, .junk, .junk, .junk, .junk, .junk, .junk, .junk, .junk, .junk, .junk, .junk, .junk, .junk, .junk, .junk, .junk, .junk, .junk, .junk, .junk, .junk, .junk, .junk, .junk, .junk, .junk, .junk, .junk, .k (.int .i64), .k (.int .i64), .junk, .junk, .junk, .junk, .junk, .k (.int .i64), .k (.int .i64), .junk, .junk, .junk, .junk, .junk, .junk, .junk, .junk, .junk, .junk, .junk, .junk, .junk, .junk, .junk, .junk, .junk, .junk, .junk]
abbrev L_impl_newTracer_8_ex : List (Nat × List Slot) := [(2, L_impl_newTracer_8_e2)]
abbrev L_impl_newTracer_8_rt : List Slot := [.junk, .junk, .junk, .junk, .junk, .junk, .junk, .junk, .junk, .junk, .junk, .junk, .junk, .junk, .junk, .junk, .junk, .junk, .junk, .junk, .junk, .junk, .junk, .junk, .junk, .junk, .junk, .junk, .junk, .junk, .junk, .junk, .junk, .junk, .junk, .junk, .junk, .junk, .junk, .junk, .junk, .junk, .junk, .junk, .junk, .junk, .junk, .junk, .junk, .junk, .junk, .junk, .junk, .junk, .junk, .junk, .junk, .junk, .junk, .junk, .junk, .junk, .junk, .junk, .junk, .junk]

def L_impl_newTracer_8_b (Φ : Post) (u : (Value × Value × Value × Int × Int × Int × Int)) (N : (Value × Value × Value × Int × Int × Int × Int) → Int → World → Prop) (s : Int) (w : World) : Prop :=
  B_impl_newTracer_8 u.1 u.2.1 u.2.2.1 u.2.2.2.1 u.2.2.2.2.1 u.2.2.2.2.2.1 u.2.2.2.2.2.2 s N (fun v w => ∀ j : Nat → Value, Φ (.exit 2) (mkT j 0 L_impl_newTracer_8_e2 v) w) w

theorem L_impl_newTracer_8_eq (j : Nat → Value) (u : (Value × Value × Value × Int × Int × Int × Int)) (s : Int) (N : (Value × Value × Value × Int × Int × Int × Int) → Int → World → Prop) (D2 : (Value × Value × Value × Int × Int × Unit) → World → Prop) (R : (Unit) → World → Prop) (w : World) :
    W Try.prog ty (fun _ _ _ _ => False) (loopAt Try.f119 8) (loopPost L_impl_newTracer_8_sp [(2, (⟨L_impl_newTracer_8_e2, D2⟩ : Door))] ⟨L_impl_newTracer_8_rt, R⟩ (fun v w => N ((fun v => (v.1, v.2.1, v.2.2.1, v.2.2.2.1, v.2.2.2.2.1, v.2.2.2.2.2.1, v.2.2.2.2.2.2.1)) v) ((fun v => v.2.2.2.2.2.2.2.1) v) w)) (mkT j 0 L_impl_newTracer_8_sp ((fun u s => (u.1, u.2.1, u.2.2.1, u.2.2.2.1, u.2.2.2.2.1, u.2.2.2.2.2.1, u.2.2.2.2.2.2, s, ())) u s)) w =
    B_impl_newTracer_8 u.1 u.2.1 u.2.2.1 u.2.2.2.1 u.2.2.2.2.1 u.2.2.2.2.2.1 u.2.2.2.2.2.2 s N D2 w := by
  kernel_rfl

def O_impl_newTracer_1 : Code → Post → List SV → World → Prop :=
  orc 8 (loopAt Try.f119 8) L_impl_newTracer_8_sp (fun Φ fr w => LOOP (U := (Value × Value × Value × Int × Int × Int × Int)) (S := Int) ((fun v => (v.1, v.2.1, v.2.2.1, v.2.2.2.1, v.2.2.2.2.1, v.2.2.2.2.2.1, v.2.2.2.2.2.2.1)) (extT L_impl_newTracer_8_sp fr)) (L_impl_newTracer_8_b Φ ((fun v => (v.1, v.2.1, v.2.2.1, v.2.2.2.1, v.2.2.2.2.1, v.2.2.2.2.2.1, v.2.2.2.2.2.2.1)) (extT L_impl_newTracer_8_sp fr))) ((fun v => v.2.2.2.2.2.2.2.1) (extT L_impl_newTracer_8_sp fr)) w) (fun _ _ _ _ => False)

theorem O_impl_newTracer_1_ok : Sound Try.prog O_impl_newTracer_1 :=
  orc_ok (sound_none _) fun Φ fr w hs h => loop_ok (ty := ty) follows (sound_none _) L_impl_newTracer_8_sp (fun v => (v.1, v.2.1, v.2.2.1, v.2.2.2.1, v.2.2.2.2.1, v.2.2.2.2.2.1, v.2.2.2.2.2.2.1)) (fun v => v.2.2.2.2.2.2.2.1) (fun u s => (u.1, u.2.1, u.2.2.1, u.2.2.2.1, u.2.2.2.2.1, u.2.2.2.2.2.1, u.2.2.2.2.2.2, s, ())) (fun _ => rfl) L_impl_newTracer_8_ex L_impl_newTracer_8_rt (body := L_impl_newTracer_8_b Φ) (fun j u s w N hb => by
    have e := L_impl_newTracer_8_eq j u s N (doorOf Φ (.exit 2) L_impl_newTracer_8_e2).D (doorOf Φ .ret L_impl_newTracer_8_rt).D w
    exact Eq.mpr e hb) hs h

def B_impl_newTracer_5 (x0 : Value) (y1 : Value) (t7 : Value) (x38 : Int) (x39 : Int) (N : (Value × Value × Value × Int) → Int → World → Prop) (D0 : (Value × Unit) → World → Prop) (w : World) : Prop :=
  (((decide (x39 < x38)) = true → (NilOk y1 ∧ (QAll Try.prog (Instr.fieldAt 25 y1 0) .any fun (x44_16 : Value) => (QSub Try.prog (Instr.loadAt 2 x44_16) w (.int .i64) fun (x45_17 : Int) => (At (loopAt Try.f119 8) (loopAt Try.f119 8) (LOOP (U := (Value × Value × Value × Int × Int × Int × Int)) (S := Int) ((x0 : Value), (y1 : Value), (t7 : Value), x39, x38, x39, x45_17) (fun N_33 s_34 w_35 => B_impl_newTracer_8 (x0 : Value) (y1 : Value) (t7 : Value) x39 x38 x39 x45_17 s_34 N_33 (fun (v_30 : (Value × Value × Value × Int × Int × Unit)) w_31 => ∀ _j_32 : Nat → Value, N ((v_30.1 : Value), (v_30.2.1 : Value), (v_30.2.2.1 : Value), v_30.2.2.2.1) (IntKind.i64.wrap (v_30.2.2.2.2.1 + (1 : Int))) w_31) w_35) (0 : Int) w)))))) ∧ ((decide (x39 < x38)) = false → D0 ((t7 : Value), ()) w))

abbrev L_impl_newTracer_5_e0 : List Slot := [.junk, .junk, .junk, .junk, .junk, .junk, .junk, .k .any, .junk, .junk, .junk, .junk, .junk, .junk, .junk, .junk, .junk, .junk, .junk, .junk, .junk, .junk, .junk, .junk, .junk, .junk, .junk, .junk, .junk, .junk, .junk, .junk, .junk, .junk, .junk, .junk, .junk, .junk, .junk, .junk, .junk, .junk, .junk, .junk, .junk, .junk, .junk, .junk, .junk, .junk, .junk, .junk, .junk, .junk, .junk, .junk, .junk, .junk, .junk, .junk, .junk, .junk, .junk, .junk, .junk, .junk]

abbrev L_impl_newTracer_5_sp : List Slot := [.k .any, .k .any, .junk, .junk, .junk, .junk, .junk, .k .any, .junk, .junk, .junk, .junk, .junk, .junk, .junk, .junk, .junk, .junk, .junk, .junk, .junk, .junk, .junk, .junk, .junk, .junk, .junk, .junk, .junk, .junk, .junk, .junk, .junk, .junk, .junk, .junk, .junk, .junk, .k (.int .i64), .k (.int .i64), .junk, .junk, .junk, .junk, .junk, .junk, .junk, .junk, .junk, .junk, .junk, .junk, .junk, .junk, .junk, .junk, .junk, .junk, .junk, .junk, .junk, .junk, .junk, .junk, .junk, .junk]
abbrev L_impl_newTracer_5_ex : List (Nat × List Slot) := [(0, L_impl_newTracer_5_e0)]
abbrev L_impl_newTracer_5_rt : List Slot := [.junk, .junk, .junk, .junk, .junk, .junk, .junk, .junk, .junk, .junk, .junk, .junk, .junk, .junk, .junk, .junk, .junk, .junk, .junk, .junk, .junk, .junk, .junk, .junk, .junk, .junk, .junk, .junk, .junk, .junk, .junk, .junk, .junk, .junk, .junk, .junk, .junk, .junk, .junk, .junk, .junk, .junk, .junk, .junk, .junk, .junk, .junk, .junk, .junk, .junk, .junk, .junk, .junk, .junk, .junk, .junk, .junk, .junk, .junk, .junk, .junk, .junk, .junk, .junk, .junk, .junk]

def L_impl_newTracer_5_b (Φ : Post) (u : (Value × Value × Value × Int)) (N : (Value × Value × Value × Int) → Int → World → Prop) (s : Int) (w : World) : Prop :=
  B_impl_newTracer_5 u.1 u.2.1 u.2.2.1 u.2.2.2 s N (fun v w => ∀ j : Nat → Value, Φ (.exit 0) (mkT j 0 L_impl_newTracer_5_e0 v) w) w

theorem L_impl_newTracer_5_eq (j : Nat → Value) (u : (Value × Value × Value × Int)) (s : Int) (N : (Value × Value × Value × Int) → Int → World → Prop) (D0 : (Value × Unit) → World → Prop) (R : (Unit) → World → Prop) (w : World) :
    W Try.prog ty O_impl_newTracer_1 (loopAt Try.f119 5) (loopPost L_impl_newTracer_5_sp [(0, (⟨L_impl_newTracer_5_e0, D0⟩ : Door))] ⟨L_impl_newTracer_5_rt, R⟩ (fun v w => N ((fun v => (v.1, v.2.1, v.2.2.1, v.2.2.2.1)) v) ((fun v => v.2.2.2.2.1) v) w)) (mkT j 0 L_impl_newTracer_5_sp ((fun u s => (u.1, u.2.1, u.2.2.1, u.2.2.2, s, ())) u s)) w =
    B_impl_newTracer_5 u.1 u.2.1 u.2.2.1 u.2.2.2 s N D0 w := by
  kernel_rfl

def O_impl_newTracer_2 : Code → Post → List SV → World → Prop :=
  orc 5 (loopAt Try.f119 5) L_impl_newTracer_5_sp (fun Φ fr w => LOOP (U := (Value × Value × Value × Int)) (S := Int) ((fun v => (v.1, v.2.1, v.2.2.1, v.2.2.2.1)) (extT L_impl_newTracer_5_sp fr)) (L_impl_newTracer_5_b Φ ((fun v => (v.1, v.2.1, v.2.2.1, v.2.2.2.1)) (extT L_impl_newTracer_5_sp fr))) ((fun v => v.2.2.2.2.1) (extT L_impl_newTracer_5_sp fr)) w) O_impl_newTracer_1

theorem O_impl_newTracer_2_ok : Sound Try.prog O_impl_newTracer_2 :=
  orc_ok O_impl_newTracer_1_ok fun Φ fr w hs h => loop_ok (ty := ty) follows O_impl_newTracer_1_ok L_impl_newTracer_5_sp (fun v => (v.1, v.2.1, v.2.2.1, v.2.2.2.1)) (fun v => v.2.2.2.2.1) (fun u s => (u.1, u.2.1, u.2.2.1, u.2.2.2, s, ())) (fun _ => rfl) L_impl_newTracer_5_ex L_impl_newTracer_5_rt (body := L_impl_newTracer_5_b Φ) (fun j u s w N hb => by
    have e := L_impl_newTracer_5_eq j u s N (doorOf Φ (.exit 0) L_impl_newTracer_5_e0).D (doorOf Φ .ret L_impl_newTracer_5_rt).D w
    exact Eq.mpr e hb) hs h

def V_impl_newTracer (x0 : Value) (y1 : Value) (order2 : Value) (w : World) (K : Value → World → Prop) : Prop :=
  (∀ w_1, Drew w w_1 → (NilOk x0 ∧ (QAll Try.prog (Instr.fieldAt 25 x0 0) .any fun (x12_2 : Value) => (QSub Try.prog (Instr.loadAt 2 x12_2) w_1 (.int .i64) fun (x13_3 : Int) => (NilOk y1 ∧ (QAll Try.prog (Instr.fieldAt 25 y1 0) .any fun (x16_4 : Value) => (QSub Try.prog (Instr.loadAt 2 x16_4) w_1 (.int .i64) fun (x17_5 : Int) => (((x13_3 != x17_5) = true → K ((.pointer none) : Value) w_1) ∧ ((x13_3 != x17_5) = false → (NilOk x0 ∧ (QAll Try.prog (Instr.fieldAt 25 x0 1) .any fun (x22_6 : Value) => (QSub Try.prog (Instr.loadAt 2 x22_6) w_1 (.int .i64) fun (x23_7 : Int) => (NilOk y1 ∧ (QAll Try.prog (Instr.fieldAt 25 y1 1) .any fun (x26_8 : Value) => (QSub Try.prog (Instr.loadAt 2 x26_8) w_1 (.int .i64) fun (x27_9 : Int) => (((x23_7 != x27_9) = true → K ((.pointer none) : Value) w_1) ∧ ((x23_7 != x27_9) = false → (Pr Try.prog (Instr.build 123 #[(0, x0), (1, y1), (2, order2)]) w_1 (.one .any) fun (x33_11 : Value) w_10 => (Pr Try.prog (Instr.box 123 x33_11) w_10 (.one .any) fun (x34_13 : Value) w_12 => (NilOk x0 ∧ (QAll Try.prog (Instr.fieldAt 25 x0 0) .any fun (x37_14 : Value) => (QSub Try.prog (Instr.loadAt 2 x37_14) w_12 (.int .i64) fun (x38_15 : Int) => (At (loopAt Try.f119 5) (loopAt Try.f119 5) (LOOP (U := (Value × Value × Value × Int)) (S := Int) ((x0 : Value), (y1 : Value), (x34_13 : Value), x38_15) (fun N_39 s_40 w_41 => B_impl_newTracer_5 (x0 : Value) (y1 : Value) (x34_13 : Value) x38_15 s_40 N_39 (fun (v_36 : (Value × Unit)) w_37 => ∀ _j_38 : Nat → Value, K (v_36.1 : Value) w_37) w_41) (0 : Int) w_12))))))))))))))))))))))))

theorem eq_impl_newTracer (x0 : Value) (y1 : Value) (order2 : Value) (w : World) (K : Value → World → Prop) :
    W Try.prog ty O_impl_newTracer_2 (bodyOf Try.f119) (fnPost Try.prog Try.f119.results.toList (.one .any) K) (frame0 [x0, y1, order2] 66) w = V_impl_newTracer x0 y1 order2 w K := by
  kernel_rfl

theorem body_impl_newTracer : Try.f119.body = some (bodyOf Try.f119) := by kernel_rfl
theorem name_impl_newTracer : (Try.f119.name == "runtime.NumGoroutine") = false := by kernel_rfl

theorem walk_impl_newTracer (x0 : Value) (y1 : Value) (order2 : Value) {w : World} {K : Value → World → Prop} (h : V_impl_newTracer x0 y1 order2 w K) : Fc Try.prog 119 #[x0, y1, order2] w (.one .any) K :=
  fn_ok follows O_impl_newTracer_2_ok Try.func119 name_impl_newTracer body_impl_newTracer Try.ntmps119 [x0, y1, order2] (Eq.mpr (eq_impl_newTracer x0 y1 order2 w K) h)

-- uses S9IsoM
theorem c_impl_newTracer {px py po : Value} {x y : Col} {ord : List Int} {w : World} {K : Value → World → Prop} (hx : x.Ok) (hy : y.Ok) (Ix : x.Is) (Iy : y.Is) (ax : ColAt w px x) (ay : ColAt w py y) (ho : SlI w po ord)
    (hno : ¬ (x.n = y.n ∧ x.k = y.k) → ∀ w', Below w.heap.size w w' → K (.pointer none) w')
    (hyes : x.n = y.n → x.k = y.k → ∀ w' b S, w.heap.size ≤ b → Below w.heap.size w w' → Blk w' b (trV px py po S) tTr → (∀ i j : Nat, i < x.n.toNat → j < x.n.toNat → S i j = sameD x y i j) → K (ptr b 0) w') :
    Fc Try.prog F_impl_newTracer #[px, py, po] w (.one .any) K := by
  have n0 := Ix.1; have n1 := Ix.2.1; have k0 := Ix.2.2.1; have k4 := Ix.2.2.2.1
  refine walk_impl_newTracer _ _ _ ?_
  intro w1 hd
  have q1 := hd.below w.heap.size
  have ax1 := ax.keep q1
  have ay1 := ay.keep q1
  refine ⟨ax.nonnil, col_n ax1 ⟨ay.nonnil, col_n ay1 ⟨fun hne => hno (fun h => ne_t hne h.1) w1 q1, fun hn => ⟨ax.nonnil, col_k ax1 ⟨ay.nonnil, col_k ay1 ⟨fun hne => hno (fun h => ne_t hne h.2) w1 q1, fun hk => ?_⟩⟩⟩⟩⟩⟩
  have hn := ne_f hn; have hk := ne_f hk
  obtain ⟨px', rfl⟩ := ax.isPtr
  obtain ⟨py', rfl⟩ := ay.isPtr
  obtain ⟨po', ln, cp, rfl, _⟩ := ho.sl
  refine ⟨_, w1, buildTr px' py' po' ln cp w1, box _ rfl fun b w2 m2 => ⟨ax.nonnil, col_n (ax1.keep m2.below) ?_⟩⟩
  have e2 := m2.here; have s2 := m2.size; have hs1 := q1.size
  have q2 := q1.trans (m2.below.mono hs1)
  refine lp (fun s w' => Below w.heap.size w w' ∧ ∃ (i : Nat) (S : Nat → Nat → Bool), s = i ∧ i ≤ x.n.toNat ∧ Blk w' b (trV (.pointer (some px')) (.pointer (some py')) (.slice po' ln cp) S) tTr ∧ ∀ a c : Nat, a < i → c < x.n.toNat → S a c = sameD x y a c) (fun s _ => (17 - s).toNat)
    ⟨q2, 0, _, rfl, by omega, m2.at_, fun a c h => absurd h (by omega)⟩ ?_
  rintro t w3 N ⟨q3, i, S, hi, hin, h3, hS⟩ hN
  subst hi
  unfold B_impl_newTracer_5
  refine ⟨fun hlt => ⟨ay.nonnil, col_n (ay.keep q3) ?_⟩, fun hge => ?_⟩
  · have hlt := dec_t hlt
    refine lp (fun s w' => Below w.heap.size w w' ∧ ∃ (j : Nat) (S : Nat → Nat → Bool), s = j ∧ j ≤ x.n.toNat ∧ Blk w' b (trV (.pointer (some px')) (.pointer (some py')) (.slice po' ln cp) S) tTr ∧ ∀ a c : Nat, (a < i ∨ a = i ∧ c < j) → c < x.n.toNat → S a c = sameD x y a c) (fun s _ => (17 - s).toNat)
      ⟨q3, 0, S, rfl, by omega, h3, fun a c h hc => hS a c (by omega) hc⟩ ?_
    rintro t w4 N' ⟨q4, j, S, hj, hjn, h4, hS⟩ hN'
    subst hj
    unfold B_impl_newTracer_8
    refine ⟨fun hlt2 => ?_, fun hge2 => ?_⟩
    · have hlt2 := dec_t hlt2
      intro w5 hd5
      have b45 := hd5.below w4.heap.size
      have q5 := q4.trans (hd5.below w.heap.size)
      refine ⟨.inl ⟨_, rfl⟩, fldp tr3 (ixRq yR289 (by omega) (by omega) (c_impl_Colouring_degreesAt hx Ix (ax.keep q5) (by omega) (by omega) fun u w6 b6 hb6 q6 o6 => ?_))⟩
      have q56 := q5.trans (q6.mono q5.size)
      refine c_impl_Colouring_degreesAt hy Iy (ay.keep q56) (by omega) (by omega) fun u' w7 b7 hb7 q7 o7 => ?_
      have q57 := q56.trans (q7.mono q56.size)
      have l6 := degK_len x i x.n.toNat
      have l7 := degK_len y j y.n.toNat
      have ky := Iy.2.2.2.1
      refine c_slices_Equal_int64_int64 (own_slI (o6.keep q7) (by omega)) (own_slI o7 (by omega)) fun w8 q8 => ?_
      have q58 := q57.trans (q8.mono q57.size)
      rw [sameD_eq hk]
      have b48 : Below w4.heap.size w4 w8 := ((b45.trans (q6.mono b45.size)).trans (q7.mono (by have := b45.size; have := q6.size; omega))).trans (q8.mono (by have := b45.size; have := q6.size; have := q7.size; omega))
      have h8 : Blk w8 b (trV (.pointer (some px')) (.pointer (some py')) (.slice po' ln cp) S) tTr := below_at b48 h4 (at_lt h4)
      refine ixRp yR17 (by omega) (by omega) (st yb h8 (by rw [trV_len, Int.toNat_natCast, Int.toNat_natCast]; omega) rfl fun w9 m9 s9 h9 => ?_)
      rw [Int.toNat_natCast, Int.toNat_natCast, Nat.zero_add, trV_set _ _ _ _ _ (by omega) (by omega)] at h9
      rw [wrap_small (by omega) (by omega)]
      have hz := q58.size
      refine hN' _ _ ⟨q58.trans (m9.below (by omega) (by simp; omega)), j + 1, _, by omega, by omega, h9, fun a c hac hc => ?_⟩ (by omega)
      by_cases he : a = i ∧ c = j
      · rw [if_pos he, he.1, he.2]
      · rw [if_neg he]; exact hS a c (by omega) hc
    · have hge2 := dec_f hge2
      intro _
      try dsimp only
      rw [wrap_small (by omega) (by omega)]
      exact hN _ _ ⟨q4, i + 1, S, by omega, by omega, h4, fun a c ha hc => hS a c (by omega) hc⟩ (by omega)
  · have hge := dec_f hge
    have : i = x.n.toNat := by omega
    subst this
    intro _
    exact hyes hn hk w3 b S (by omega) q3 h3 fun i j hi hj => hS i j hi hj

end Go.Proofs.Ytkadckhealbdaaa

/- The reading of impl_tracer_all, and its contract. No condition. -/
namespace Go.Proofs.Ytkadckhealbdaaa
open Go Go.RowKit Eng Mem
set_option linter.unusedVariables false
set_option maxRecDepth 100000
def B_impl_tracer_all_11 (t0 : Value) (p1 : Value) (with2 : Value) (i8 : Int) (j9 : Int) (x38 : Int) (x39 : Int) (x51 : Value) (x52 : Int) (fits10 : Bool) (x53 : Int) (N : (Value × Value × Value × Int × Int × Int × Int × Value × Int) → (Bool × Int) → World → Prop) (D2 : (Value × Value × Value × Int × Int × Bool × Int × Int × Unit) → World → Prop) (w : World) : Prop :=
  (((decide (x53 < x52)) = true → (QAll Try.prog (Instr.indexAt 31 x51 (.int .i64 x53)) .any fun (x56_20 : Value) => (QSub Try.prog (Instr.loadAt 2 x56_20) w (.int .i64) fun (x57_21 : Int) => (∀ w_22, Drew w w_22 → (((x57_21 == j9) = true → D2 ((t0 : Value), (p1 : Value), (with2 : Value), i8, j9, false, x38, x39, ()) w_22) ∧ ((x57_21 == j9) = false → (NilOk t0 ∧ (QAll Try.prog (Instr.fieldAt 123 t0 0) .any fun (x64_23 : Value) => (QSub Try.prog (Instr.loadAt 77 x64_23) w_22 .any fun (x65_24 : Value) => (NilOk t0 ∧ (QAll Try.prog (Instr.fieldAt 123 t0 2) .any fun (x68_25 : Value) => (QSub Try.prog (Instr.loadAt 31 x68_25) w_22 .any fun (x69_26 : Value) => (QAll Try.prog (Instr.indexAt 31 x69_26 (.int .i64 x53)) .any fun (x71_27 : Value) => (QSub Try.prog (Instr.loadAt 2 x71_27) w_22 (.int .i64) fun (x72_28 : Int) => (NilOk t0 ∧ (QAll Try.prog (Instr.fieldAt 123 t0 1) .any fun (x77_29 : Value) => (QSub Try.prog (Instr.loadAt 77 x77_29) w_22 .any fun (x78_30 : Value) => (Fc Try.prog 89 #[x65_24, (.int .i64 x72_28), (.int .i64 i8)] w_22 (.one (.int .i64)) fun (x74_32 : Int) w_31 => (Keeps w_22 w_31 ((Fc Try.prog 89 #[x78_30, (.int .i64 x57_21), (.int .i64 j9)] w_31 (.one (.int .i64)) fun (x81_34 : Int) w_33 => (Keeps w_22 w_33 ((((x74_32 != x81_34) = true → D2 ((t0 : Value), (p1 : Value), (with2 : Value), i8, j9, false, x38, x39, ()) w_33) ∧ ((x74_32 != x81_34) = false → N ((t0 : Value), (p1 : Value), (with2 : Value), i8, j9, x38, x39, (x51 : Value), x52) (fits10, (IntKind.i64.wrap (x53 + (1 : Int)))) w_33))))))))))))))))))))))))) ∧ ((decide (x53 < x52)) = false → D2 ((t0 : Value), (p1 : Value), (with2 : Value), i8, j9, fits10, x38, x39, ()) w))

abbrev L_impl_tracer_all_11_e2 : List Slot := [.k .any, .k .any, .k .any, .junk, .junk, .junk, .junk, .junk, .k (.int .i64), .k (.int .i64), .k .bool, .junk, .junk, .junk, .junk, .junk, .junk, .junk, .junk, .junk, .junk, .junk, .junk, .junk, .junk, .junk, .junk, .junk, .junk, .junk, .junk, .junk, .junk, .junk, .junk, .junk, .junk, .junk, .k (.int .i64), .k (.int .i64), .junk, .junk, .junk, .junk, .junk, .junk, .junk, .junk, .junk, .junk, .junk, .junk, .junk, .junk, .junk, .junk, .junk, .junk, .junk, .junk, .junk, .junk, .junk, .junk, .junk, .junk, .junk, .junk, .junk, .junk, .junk, .junk, .junk, .junk, .junk, .junk, .junk, .junk, .junk, .junk, .junk, .junk, .junk, .junk, .junk, .junk, .junk, .junk, .junk, .junk, .junk, .junk, .junk, .junk, .junk, .junk, .junk]

abbrev L_impl_tracer_all_11_sp : List Slot := [.k .any, .k .any, .k .any, .junk, .junk, .junk, .junk, .junk, .k (.int .i64), .k (.int .i64), .k .bool, .junk, .junk, .junk, .junk, .junk, .junk, .junk, .junk, .junk, .junk, .junk, .junk, .junk, .junk, .junk, .junk, .junk, .junk, .junk, .junk, .junk, .junk, .junk, .junk, .junk, .junk, .junk, .k (.int .i64), .k (.int .i64), .junk, .junk, .junk, .junk, .junk, .junk, .junk, .junk, .junk, .junk, .junk, .k .any, .k (.int .i64), .k (.int .i64), .junk, .junk, .junk, .junk, .junk, .junk, .junk, .junk, .junk, .junk, .junk, .junk, .junk, .junk, .junk, .junk, .junk, .junk, .junk, .junk, .junk, .junk, .junk, .junk, .junk, .junk, .junk, .junk, .junk, .junk, .junk, .junk, .junk, .junk, .junk, .junk, .junk, .junk, .junk, .junk, .junk, .junk, .junk]
abbrev L_impl_tracer_all_11_ex : List (Nat × List Slot) := [(2, L_impl_tracer_all_11_e2)]
abbrev L_impl_tracer_all_11_rt : List Slot := [.junk, .junk, .junk, .junk, .junk, .junk, .junk, .junk, .junk, .junk, .junk, .junk, .junk, .junk, .junk, .junk, .junk, .junk, .junk, .junk, .junk, .junk, .junk, .junk, .junk, .junk, .junk, .junk, .junk, .junk, .junk, .junk, .junk, .junk, .junk, .junk, .junk, .junk, .junk, .junk, .junk, .junk, .junk, .junk, .junk, .junk, .junk, .junk, .junk, .junk, .junk, .junk, .junk, .junk, .junk, .junk, .junk, .junk, .junk, .junk, .junk, .junk, .junk, .junk, .junk, .junk, .junk, .junk, .junk, .junk, .junk, .junk, .junk, .junk, .junk, .junk, .junk, .junk, .junk, .junk, .junk, .junk, .junk, .junk, .junk, .junk, .junk, .junk, .junk, .junk, .junk, .junk, .junk, .junk, .junk, .junk, .junk]

def L_impl_tracer_all_11_b (Φ : Post) (u : (Value × Value × Value × Int × Int × Int × Int × Value × Int)) (N : (Value × Value × Value × Int × Int × Int × Int × Value × Int) → (Bool × Int) → World → Prop) (s : (Bool × Int)) (w : World) : Prop :=
  B_impl_tracer_all_11 u.1 u.2.1 u.2.2.1 u.2.2.2.1 u.2.2.2.2.1 u.2.2.2.2.2.1 u.2.2.2.2.2.2.1 u.2.2.2.2.2.2.2.1 u.2.2.2.2.2.2.2.2 s.1 s.2 N (fun v w => ∀ j : Nat → Value, Φ (.exit 2) (mkT j 0 L_impl_tracer_all_11_e2 v) w) w

theorem L_impl_tracer_all_11_eq (j : Nat → Value) (u : (Value × Value × Value × Int × Int × Int × Int × Value × Int)) (s : (Bool × Int)) (N : (Value × Value × Value × Int × Int × Int × Int × Value × Int) → (Bool × Int) → World → Prop) (D2 : (Value × Value × Value × Int × Int × Bool × Int × Int × Unit) → World → Prop) (R : (Unit) → World → Prop) (w : World) :
    W Try.prog ty (fun _ _ _ _ => False) (loopAt Try.f121 11) (loopPost L_impl_tracer_all_11_sp [(2, (⟨L_impl_tracer_all_11_e2, D2⟩ : Door))] ⟨L_impl_tracer_all_11_rt, R⟩ (fun v w => N ((fun v => (v.1, v.2.1, v.2.2.1, v.2.2.2.1, v.2.2.2.2.1, v.2.2.2.2.2.2.1, v.2.2.2.2.2.2.2.1, v.2.2.2.2.2.2.2.2.1, v.2.2.2.2.2.2.2.2.2.1)) v) ((fun v => (v.2.2.2.2.2.1, v.2.2.2.2.2.2.2.2.2.2.1)) v) w)) (mkT j 0 L_impl_tracer_all_11_sp ((fun u s => (u.1, u.2.1, u.2.2.1, u.2.2.2.1, u.2.2.2.2.1, s.1, u.2.2.2.2.2.1, u.2.2.2.2.2.2.1, u.2.2.2.2.2.2.2.1, u.2.2.2.2.2.2.2.2, s.2, ())) u s)) w =
    B_impl_tracer_all_11 u.1 u.2.1 u.2.2.1 u.2.2.2.1 u.2.2.2.2.1 u.2.2.2.2.2.1 u.2.2.2.2.2.2.1 u.2.2.2.2.2.2.2.1 u.2.2.2.2.2.2.2.2 s.1 s.2 N D2 w := by
  kernel_rfl

def O_impl_tracer_all_1 : Code → Post → List SV → World → Prop :=
  orc 11 (loopAt Try.f121 11) L_impl_tracer_all_11_sp (fun Φ fr w => LOOP (U := (Value × Value × Value × Int × Int × Int × Int × Value × Int)) (S := (Bool × Int)) ((fun v => (v.1, v.2.1, v.2.2.1, v.2.2.2.1, v.2.2.2.2.1, v.2.2.2.2.2.2.1, v.2.2.2.2.2.2.2.1, v.2.2.2.2.2.2.2.2.1, v.2.2.2.2.2.2.2.2.2.1)) (extT L_impl_tracer_all_11_sp fr)) (L_impl_tracer_all_11_b Φ ((fun v => (v.1, v.2.1, v.2.2.1, v.2.2.2.1, v.2.2.2.2.1, v.2.2.2.2.2.2.1, v.2.2.2.2.2.2.2.1, v.2.2.2.2.2.2.2.2.1, v.2.2.2.2.2.2.2.2.2.1)) (extT L_impl_tracer_all_11_sp fr))) ((fun v => (v.2.2.2.2.2.1, v.2.2.2.2.2.2.2.2.2.2.1)) (extT L_impl_tracer_all_11_sp fr)) w) (fun _ _ _ _ => False)

theorem O_impl_tracer_all_1_ok : Sound Try.prog O_impl_tracer_all_1 :=
  orc_ok (sound_none _) fun Φ fr w hs h => loop_ok (ty := ty) follows (sound_none _) L_impl_tracer_all_11_sp (fun v => (v.1, v.2.1, v.2.2.1, v.2.2.2.1, v.2.2.2.2.1, v.2.2.2.2.2.2.1, v.2.2.2.2.2.2.2.1, v.2.2.2.2.2.2.2.2.1, v.2.2.2.2.2.2.2.2.2.1)) (fun v => (v.2.2.2.2.2.1, v.2.2.2.2.2.2.2.2.2.2.1)) (fun u s => (u.1, u.2.1, u.2.2.1, u.2.2.2.1, u.2.2.2.2.1, s.1, u.2.2.2.2.2.1, u.2.2.2.2.2.2.1, u.2.2.2.2.2.2.2.1, u.2.2.2.2.2.2.2.2, s.2, ())) (fun _ => rfl) L_impl_tracer_all_11_ex L_impl_tracer_all_11_rt (body := L_impl_tracer_all_11_b Φ) (fun j u s w N hb => by
    have e := L_impl_tracer_all_11_eq j u s N (doorOf Φ (.exit 2) L_impl_tracer_all_11_e2).D (doorOf Φ .ret L_impl_tracer_all_11_rt).D w
    exact Eq.mpr e hb) hs h

def B_impl_tracer_all_6 (t0 : Value) (p1 : Value) (with2 : Value) (i8 : Int) (x38 : Int) (x39 : Int) (N : (Value × Value × Value × Int × Int) → Int → World → Prop) (D0 : (Unit) → World → Prop) (R : (Bool × Unit) → World → Prop) (w : World) : Prop :=
  (((decide (x39 < x38)) = true → (NilOk t0 ∧ (QAll Try.prog (Instr.fieldAt 123 t0 3) .any fun (x46_15 : Value) => (QAll Try.prog (Instr.indexAt 121 x46_15 (.int .i64 i8)) .any fun (x47_16 : Value) => (QAll Try.prog (Instr.indexAt 120 x47_16 (.int .i64 x39)) .any fun (x48_17 : Value) => (QSub Try.prog (Instr.loadAt 4 x48_17) w .bool fun (x49_18 : Bool) => (((!x49_18) = true → N ((t0 : Value), (p1 : Value), (with2 : Value), i8, x38) (IntKind.i64.wrap (x39 + (1 : Int))) w) ∧ ((!x49_18) = false → (QAll Try.prog (Builtin.len_ #[31] 3 #[p1]) (.int .i64) fun (x52_19 : Int) => (At (loopAt Try.f121 11) (loopAt Try.f121 11) (LOOP (U := (Value × Value × Value × Int × Int × Int × Int × Value × Int)) (S := (Bool × Int)) ((t0 : Value), (p1 : Value), (with2 : Value), i8, x39, x38, x39, (p1 : Value), x52_19) (fun N_44 s_45 w_46 => B_impl_tracer_all_11 (t0 : Value) (p1 : Value) (with2 : Value) i8 x39 x38 x39 (p1 : Value) x52_19 s_45.1 s_45.2 N_44 (fun (v_35 : (Value × Value × Value × Int × Int × Bool × Int × Int × Unit)) w_36 => ∀ _j_37 : Nat → Value, ((v_35.2.2.2.2.2.1 = true → (Pr Try.prog (Instr.buildSlice 31 1 #[(0, (.int .i64 v_35.2.2.2.2.1))]) w_36 (.one .any) fun (x90_39 : Value) w_38 => (Pr Try.prog (Builtin.append_ #[31, 31] 31 #[v_35.2.1, x90_39]) w_38 (.one .any) fun (x91_41 : Value) w_40 => (Fc Try.prog 121 #[v_35.1, x91_41, v_35.2.2.1] w_40 (.one .bool) fun (x93_43 : Bool) w_42 => (((!x93_43) = true → R (false, ()) w_42) ∧ ((!x93_43) = false → N ((v_35.1 : Value), (v_35.2.1 : Value), (v_35.2.2.1 : Value), v_35.2.2.2.1, v_35.2.2.2.2.2.2.1) (IntKind.i64.wrap (v_35.2.2.2.2.2.2.2.1 + (1 : Int))) w_42)))))) ∧ (v_35.2.2.2.2.2.1 = false → N ((v_35.1 : Value), (v_35.2.1 : Value), (v_35.2.2.1 : Value), v_35.2.2.2.1, v_35.2.2.2.2.2.2.1) (IntKind.i64.wrap (v_35.2.2.2.2.2.2.2.1 + (1 : Int))) w_36))) w_46) (true, (0 : Int)) w))))))))))) ∧ ((decide (x39 < x38)) = false → D0 () w))

abbrev L_impl_tracer_all_6_e0 : List Slot := [.junk, .junk, .junk, .junk, .junk, .junk, .junk, .junk, .junk, .junk, .junk, .junk, .junk, .junk, .junk, .junk, .junk, .junk, .junk, .junk, .junk, .junk, .junk, .junk, .junk, .junk, .junk, .junk, .junk, .junk, .junk, .junk, .junk, .junk, .junk, .junk, .junk, .junk, .junk, .junk, .junk, .junk, .junk, .junk, .junk, .junk, .junk, .junk, .junk, .junk, .junk, .junk, .junk, .junk, .junk, .junk, .junk, .junk, .junk, .junk, .junk, .junk, .junk, .junk, .junk, .junk, .junk, .junk, .junk, .junk, .junk, .junk, .junk, .junk, .junk, .junk, .junk, .junk, .junk, .junk, .junk, .junk, .junk, .junk, .junk, .junk, .junk, .junk, .junk, .junk, .junk, .junk, .junk, .junk, .junk, .junk, .junk]

abbrev L_impl_tracer_all_6_sp : List Slot := [.k .any, .k .any, .k .any, .junk, .junk, .junk, .junk, .junk, .k (.int .i64), .junk, .junk, .junk, .junk, .junk, .junk, .junk, .junk, .junk, .junk, .junk, .junk, .junk, .junk, .junk, .junk, .junk, .junk, .junk, .junk, .junk, .junk, .junk, .junk, .junk, .junk, .junk, .junk, .junk, .k (.int .i64), .k (.int .i64), .junk, .junk, .junk, .junk, .junk, .junk, .junk, .junk, .junk, .junk, .junk, .junk, .junk, .junk, .junk, .junk, .junk, .junk, .junk, .junk, .junk, .junk, .junk, .junk, .junk, .junk, .junk, .junk, .junk, .junk, .junk, .junk, .junk, .junk, .junk, .junk, .junk, .junk, .junk, .junk, .junk, .junk, .junk, .junk, .junk, .junk, .junk, .junk, .junk, .junk, .junk, .junk, .junk, .junk, .junk, .junk, .junk]
abbrev L_impl_tracer_all_6_ex : List (Nat × List Slot) := [(0, L_impl_tracer_all_6_e0)]
abbrev L_impl_tracer_all_6_rt : List Slot := [.junk, .junk, .junk, .junk, .junk, .junk, .k .bool, .junk, .junk, .junk, .junk, .junk, .junk, .junk, .junk, .junk, .junk, .junk, .junk, .junk, .junk, .junk, .junk, .junk, .junk, .junk, .junk, .junk, .junk, .junk, .junk, .junk, .junk, .junk, .junk, .junk, .junk, .junk, .junk, .junk, .junk, .junk, .junk, .junk, .junk, .junk, .junk, .junk, .junk, .junk, .junk, .junk, .junk, .junk, .junk, .junk, .junk, .junk, .junk, .junk, .junk, .junk, .junk, .junk, .junk, .junk, .junk, .junk, .junk, .junk, .junk, .junk, .junk, .junk, .junk, .junk, .junk, .junk, .junk, .junk, .junk, .junk, .junk, .junk, .junk, .junk, .junk, .junk, .junk, .junk, .junk, .junk, .junk, .junk, .junk, .junk, .junk]

def L_impl_tracer_all_6_b (Φ : Post) (u : (Value × Value × Value × Int × Int)) (N : (Value × Value × Value × Int × Int) → Int → World → Prop) (s : Int) (w : World) : Prop :=
  B_impl_tracer_all_6 u.1 u.2.1 u.2.2.1 u.2.2.2.1 u.2.2.2.2 s N (fun v w => ∀ j : Nat → Value, Φ (.exit 0) (mkT j 0 L_impl_tracer_all_6_e0 v) w) (fun v w => ∀ j : Nat → Value, Φ .ret (mkT j 0 L_impl_tracer_all_6_rt v) w) w

theorem L_impl_tracer_all_6_eq (j : Nat → Value) (u : (Value × Value × Value × Int × Int)) (s : Int) (N : (Value × Value × Value × Int × Int) → Int → World → Prop) (D0 : (Unit) → World → Prop) (R : (Bool × Unit) → World → Prop) (w : World) :
    W Try.prog ty O_impl_tracer_all_1 (loopAt Try.f121 6) (loopPost L_impl_tracer_all_6_sp [(0, (⟨L_impl_tracer_all_6_e0, D0⟩ : Door))] ⟨L_impl_tracer_all_6_rt, R⟩ (fun v w => N ((fun v => (v.1, v.2.1, v.2.2.1, v.2.2.2.1, v.2.2.2.2.1)) v) ((fun v => v.2.2.2.2.2.1) v) w)) (mkT j 0 L_impl_tracer_all_6_sp ((fun u s => (u.1, u.2.1, u.2.2.1, u.2.2.2.1, u.2.2.2.2, s, ())) u s)) w =
    B_impl_tracer_all_6 u.1 u.2.1 u.2.2.1 u.2.2.2.1 u.2.2.2.2 s N D0 R w := by
  kernel_rfl

def O_impl_tracer_all_2 : Code → Post → List SV → World → Prop :=
  orc 6 (loopAt Try.f121 6) L_impl_tracer_all_6_sp (fun Φ fr w => LOOP (U := (Value × Value × Value × Int × Int)) (S := Int) ((fun v => (v.1, v.2.1, v.2.2.1, v.2.2.2.1, v.2.2.2.2.1)) (extT L_impl_tracer_all_6_sp fr)) (L_impl_tracer_all_6_b Φ ((fun v => (v.1, v.2.1, v.2.2.1, v.2.2.2.1, v.2.2.2.2.1)) (extT L_impl_tracer_all_6_sp fr))) ((fun v => v.2.2.2.2.2.1) (extT L_impl_tracer_all_6_sp fr)) w) O_impl_tracer_all_1

theorem O_impl_tracer_all_2_ok : Sound Try.prog O_impl_tracer_all_2 :=
  orc_ok O_impl_tracer_all_1_ok fun Φ fr w hs h => loop_ok (ty := ty) follows O_impl_tracer_all_1_ok L_impl_tracer_all_6_sp (fun v => (v.1, v.2.1, v.2.2.1, v.2.2.2.1, v.2.2.2.2.1)) (fun v => v.2.2.2.2.2.1) (fun u s => (u.1, u.2.1, u.2.2.1, u.2.2.2.1, u.2.2.2.2, s, ())) (fun _ => rfl) L_impl_tracer_all_6_ex L_impl_tracer_all_6_rt (body := L_impl_tracer_all_6_b Φ) (fun j u s w N hb => by
    have e := L_impl_tracer_all_6_eq j u s N (doorOf Φ (.exit 0) L_impl_tracer_all_6_e0).D (doorOf Φ .ret L_impl_tracer_all_6_rt).D w
    exact Eq.mpr e hb) hs h

def V_impl_tracer_all (t0 : Value) (p1 : Value) (with2 : Value) (w : World) (K : Bool → World → Prop) : Prop :=
  (QAll Try.prog (Builtin.len_ #[31] 3 #[p1]) (.int .i64) fun (x14_1 : Int) => (NilOk t0 ∧ (QAll Try.prog (Instr.fieldAt 123 t0 2) .any fun (x18_2 : Value) => (QSub Try.prog (Instr.loadAt 31 x18_2) w .any fun (x19_3 : Value) => (QAll Try.prog (Builtin.len_ #[31] 3 #[x19_3]) (.int .i64) fun (x20_4 : Int) => (((x14_1 == x20_4) = true → (callV Try.prog with2 #[p1] w (.one .bool) fun (x24_6 : Bool) w_5 => K x24_6 w_5)) ∧ ((x14_1 == x20_4) = false → (NilOk t0 ∧ (QAll Try.prog (Instr.fieldAt 123 t0 2) .any fun (x27_7 : Value) => (QSub Try.prog (Instr.loadAt 31 x27_7) w .any fun (x28_8 : Value) => (QAll Try.prog (Instr.indexAt 31 x28_8 (.int .i64 x14_1)) .any fun (x30_9 : Value) => (QSub Try.prog (Instr.loadAt 2 x30_9) w (.int .i64) fun (x31_10 : Int) => (NilOk t0 ∧ (QAll Try.prog (Instr.fieldAt 123 t0 1) .any fun (x34_11 : Value) => (QSub Try.prog (Instr.loadAt 77 x34_11) w .any fun (x35_12 : Value) => (NilOk x35_12 ∧ (QAll Try.prog (Instr.fieldAt 25 x35_12 0) .any fun (x37_13 : Value) => (QSub Try.prog (Instr.loadAt 2 x37_13) w (.int .i64) fun (x38_14 : Int) => (At (loopAt Try.f121 6) (loopAt Try.f121 6) (LOOP (U := (Value × Value × Value × Int × Int)) (S := Int) ((t0 : Value), (p1 : Value), (with2 : Value), x31_10, x38_14) (fun N_53 s_54 w_55 => B_impl_tracer_all_6 (t0 : Value) (p1 : Value) (with2 : Value) x31_10 x38_14 s_54 N_53 (fun (v_47 : (Unit)) w_48 => ∀ _j_49 : Nat → Value, K true w_48) (fun (v_50 : (Bool × Unit)) w_51 => ∀ _j_52 : Nat → Value, K v_50.1 w_51) w_55) (0 : Int) w))))))))))))))))))))

theorem eq_impl_tracer_all (t0 : Value) (p1 : Value) (with2 : Value) (w : World) (K : Bool → World → Prop) :
    W Try.prog ty O_impl_tracer_all_2 (bodyOf Try.f121) (fnPost Try.prog Try.f121.results.toList (.one .bool) K) (frame0 [t0, p1, with2] 97) w = V_impl_tracer_all t0 p1 with2 w K := by
  kernel_rfl

theorem body_impl_tracer_all : Try.f121.body = some (bodyOf Try.f121) := by kernel_rfl
theorem name_impl_tracer_all : (Try.f121.name == "runtime.NumGoroutine") = false := by kernel_rfl

theorem walk_impl_tracer_all (t0 : Value) (p1 : Value) (with2 : Value) {w : World} {K : Bool → World → Prop} (h : V_impl_tracer_all t0 p1 with2 w K) : Fc Try.prog 121 #[t0, p1, with2] w (.one .bool) K :=
  fn_ok follows O_impl_tracer_all_2_ok Try.func121 name_impl_tracer_all body_impl_tracer_all Try.ntmps121 [t0, p1, with2] (Eq.mpr (eq_impl_tracer_all t0 p1 with2 w K) h)

-- uses S9IsoM
theorem c_impl_tracer_all {b bp : Nat} {px py po f : Value} {x y : Col} {S : Nat → Nat → Bool} (J : World → Prop) (Q : List Int → World → Prop) (hx : x.Ok) (hy : y.Ok) (n0 : 1 ≤ x.n) (n1 : x.n ≤ 17) (hxy : x.n = y.n)
    (hS : ∀ i j : Nat, i < x.n.toNat → j < x.n.toNat → S i j = sameD x y i j)
    (hJ : ∀ w, J w → Blk w b (trV px py po S) tTr ∧ ColAt w px x ∧ ColAt w py y ∧ SlI w po (sel (fun _ => true) x.n.toNat))
    (hst : ∀ w w', J w → Mod [bp] w w' → J w')
    (hcall : ∀ (l : List Int) (w' : World) (K' : Bool → World → Prop), l.length = x.n.toNat → J w' → OwnC w' bp l → (∀ w'', Q l w'' → K' false w'') → callV Try.prog f #[vC bp l] w' (.one .bool) K') :
    ∀ (fuel : Nat) (p : List Int) (w : World) (K : Bool → World → Prop), p.length + fuel = x.n.toNat → J w → OwnC w bp p → (∀ e ∈ p, 0 ≤ e ∧ e < x.n) →
      (isoF x y fuel p = none → ∀ w', J w' → Mod [bp] w w' → OwnC w' bp p → K true w') → (∀ l, isoF x y fuel p = some l → ∀ w', Q l w' → K false w') →
      Fc Try.prog F_impl_tracer_all #[ptr b 0, vC bp p, f] w (.one .bool) K
  | fuel, p, w, K, hlen, hj, hp, hpe, hn, hs => by
    obtain ⟨hb, ax, ay, hord⟩ := hJ w hj
    have nn : NilOk (ptr b 0) := .inl ⟨_, rfl⟩
    have cord : ∀ {w'}, Blk w' b (trV px py po S) tTr → Cell w' (ptr b 2) po := fun h => by
      have := (blk_row h).get 2 (v := po) rfl
      simpa [padd, add_none] using this
    have cx : ∀ {w'}, Blk w' b (trV px py po S) tTr → Cell w' (ptr b 0) px := fun h => by
      have := (blk_row h).get 0 (v := px) rfl
      simpa [padd, add_none] using this
    have cy : ∀ {w'}, Blk w' b (trV px py po S) tTr → Cell w' (ptr b 1) py := fun h => by
      have := (blk_row h).get 1 (v := py) rfl
      simpa [padd, add_none] using this
    have hsl := selT_len x.n.toNat
    refine walk_impl_tracer_all _ _ _ (lenI hp.sl ⟨nn, fldp tr2 (ld (k := .any) y1SI (cord hb) (lenI hord ?_))⟩)
    rw [hsl]
    refine ⟨fun he => ?_, fun hne => ?_⟩
    · have he := eq_t he
      have hf : fuel = 0 := by omega
      subst hf
      exact hcall p w _ (by omega) hj hp fun w'' hq => hs p rfl w'' hq
    have hne := eq_f hne
    match fuel, hlen, hn, hs with
    | 0, hlen, _, _ => omega
    | fuel + 1, hlen, hn, hs =>
    have hkn : p.length < x.n.toNat := by omega
    refine ⟨nn, fldp tr2 (ld (k := .any) y1SI (cord hb) (atI hord (by omega) (by rw [hsl]; omega) ⟨nn, fldp tr1 (ld (k := .any) y1PC (cy hb) ⟨ay.nonnil, col_n ay ?_⟩)⟩))⟩
    rw [Int.toNat_natCast, selT_get hkn, ← hxy]
    rw [isoF_succ] at hn hs
    refine lp (fun s w' => ∃ j : Nat, s = j ∧ j ≤ x.n.toNat ∧ J w' ∧ Mod [bp] w w' ∧ OwnC w' bp p ∧ isoR x y fuel p j = isoR x y fuel p 0) (fun s _ => (17 - s).toNat) ⟨0, rfl, by omega, hj, Mod.refl _ _, hp, rfl⟩ ?_
    rintro t w2 N ⟨j, hjj, hjn, hj2, m2, hp2, hR⟩ hN
    subst hjj
    unfold B_impl_tracer_all_6
    obtain ⟨hb2, ax2, ay2, hord2⟩ := hJ w2 hj2
    refine ⟨fun hlt => ⟨nn, fldp tr3 (ixRq yR289 (by omega) (by omega) (ixRq yR17 (by omega) (by have := dec_t hlt; omega) ?_))⟩, fun hge => ?_⟩
    · have hlt := dec_t hlt
      have next : ∀ w', J w' → Mod [bp] w w' → OwnC w' bp p → isoR x y fuel p (j + 1) = isoR x y fuel p 0 → N (ptr b 0, vC bp p, f, (p.length : Int), x.n) (IntKind.i64.wrap ((j : Int) + 1)) w' := fun w' h1 h2 h3 h4 => by
        rw [wrap_small (by omega) (by omega)]
        exact hN _ _ ⟨j + 1, by omega, by omega, h1, h2, h3, h4⟩ (by omega)
      have hcell : Cell w2 (ptr b (0 + 3 + (p.length : Int).toNat * 17 + (j : Int).toNat * 1)) (.bool (S p.length j)) := by
        have := (blk_row hb2).get _ (trV_get px py po S (i := p.length) (j := j) (by omega) (by omega))
        simpa [padd, add_none] using this
      refine ld (k := .bool) yb hcell ⟨fun hno => ?_, fun hyes => ?_⟩
      · have hno := not_t hno
        rw [hS _ _ hkn (by omega)] at hno
        exact next w2 hj2 m2 hp2 (by rw [← hR]; exact (isoR_skip (by omega) (fun h => by rw [hno] at h; cases h.1)).symm)
      have hyes := not_f hyes
      rw [hS _ _ hkn (by omega)] at hyes
      refine lenI hp2.sl ?_
      refine lp (fun s w' => s.1 = true ∧ Below w2.heap.size w2 w' ∧ ∃ m : Nat, s.2 = m ∧ m ≤ p.length ∧ ∀ a : Nat, a < m → p.getD a 0 ≠ j ∧ colAt x a p.length = colAt y (p.getD a 0) j) (fun s _ => (17 - s.2).toNat) ⟨rfl, Below.refl _ _, 0, rfl, by omega, fun a h => absurd h (by omega)⟩ ?_
      rintro ⟨fits, t⟩ w3 N' ⟨hfit, q3, m, hm, hmp, hall⟩ hN'
      simp only at hfit hm
      subst hm; subst hfit
      unfold B_impl_tracer_all_11
      dsimp only
      have j3 : J w3 := hst _ _ hj2 (mod_of_below q3 _)
      have m3 : Mod [bp] w w3 := m2.trans (mod_of_below q3 _)
      have p3 := hp2.keep q3
      refine ⟨fun hlt2 => ?_, fun hge2 => ?_⟩
      · have hlt2 := dec_t hlt2
        have hmem : p.getD m 0 ∈ p := by
          have : m < p.length := by omega
          have e : p.getD m 0 = p[m] := by simp [List.getD, this]
          rw [e]; exact List.getElem_mem this
        have hto := hpe _ hmem
        have hbad : ¬ (p.getD m 0 ≠ j ∧ colAt x m p.length = colAt y (p.getD m 0) j) → ¬ (sameD x y p.length j = true ∧ fitsD x y p j = true) := fun hb h => hb (by
          have := h.2
          unfold fitsD at this
          exact of_decide_eq_true this m (by omega))
        refine atI p3.sl (by omega) hlt2 ?_
        rw [Int.toNat_natCast]
        intro w4 hd4
        have q4 := q3.trans (hd4.below w2.heap.size)
        have j4 : J w4 := hst _ _ hj2 (mod_of_below q4 _)
        have m4 : Mod [bp] w w4 := m2.trans (mod_of_below q4 _)
        have p4 := hp2.keep q4
        obtain ⟨hb4, ax4, ay4, hord4⟩ := hJ w4 j4
        refine ⟨fun he => ?_, fun hne2 => ?_⟩
        · have he := eq_t he
          intro _
          exact ⟨fun h => absurd h (by simp), fun _ => next w4 j4 m4 p4 (by rw [← hR]; exact (isoR_skip (by omega) (hbad fun h => h.1 he)).symm)⟩
        · have hne2 := eq_f hne2
          refine ⟨nn, fldp tr0 (ld (k := .any) y1PC (cx hb4) ⟨nn, fldp tr2 (ld (k := .any) y1SI (cord hb4) (atI hord4 (by omega) (by rw [hsl]; omega) ⟨nn, fldp tr1 (ld (k := .any) y1PC (cy hb4) ?_)⟩))⟩)⟩
          rw [Int.toNat_natCast, selT_get (by omega)]
          refine c_impl_Colouring_at hx ax4 (by omega) (by omega) (by omega) (by omega) (by omega) fun w5 q5 => ⟨q5, c_impl_Colouring_at hy (ay4.keep q5) hto.1 (by omega) (by omega) (by omega) hne2 fun w6 q6 => ?_⟩
          have q56 := q5.trans (q6.mono q5.size)
          have q26 := q4.trans (q56.mono q4.size)
          refine ⟨q56, fun hc => ?_, fun hc => ?_⟩
          · have hc := ne_t hc
            intro _
            exact ⟨fun h => absurd h (by simp), fun _ => next w6 (hst _ _ hj2 (mod_of_below q26 _)) (m2.trans (mod_of_below q26 _)) (hp2.keep q26) (by rw [← hR]; exact (isoR_skip (by omega) (hbad fun h => hc h.2)).symm)⟩
          · have hc := ne_f hc
            rw [wrap_small (by omega) (by omega)]
            refine hN' _ _ ⟨rfl, q26, m + 1, by simp only; omega, by omega, fun a ha => ?_⟩ (by simp only; omega)
            by_cases ham : a < m
            · exact hall a ham
            · have : a = m := by omega
              subst this
              exact ⟨hne2, hc⟩
      · have hge2 := dec_f hge2
        have : m = p.length := by omega
        subst this
        intro _
        refine ⟨fun _ => ?_, fun h => absurd h (by simp)⟩
        have hfits : fitsD x y p j = true := by unfold fitsD; exact decide_eq_true hall
        have hgo := isoR_go (f := fuel) (by omega) hyes hfits
        rw [hR] at hgo
        refine appC p3 (by omega) fun w4 m4 p4 => ?_
        have j4 := hst _ _ j3 m4
        refine c_impl_tracer_all J Q hx hy n0 n1 hxy hS hJ hst hcall fuel (p ++ [(j : Int)]) w4 _ (by simp; omega) j4 p4 (fun e he => by
          rcases List.mem_append.1 he with he | he
          · exact hpe e he
          · simp at he; omega) (fun hnone w5 j5 m5 p5 => ?_) (fun l hsome w5 hq => ?_)
        · refine ⟨fun h => absurd h (by simp), fun _ => ?_⟩
          rw [hnone] at hgo
          exact next w5 j5 ((m3.trans m4).trans m5) p5.pre hgo.symm
        · refine ⟨fun _ => ?_, fun h => absurd h (by simp)⟩
          rw [hsome] at hgo
          intro _
          exact hs l hgo w5 hq
    · have hge := dec_f hge
      have : j = x.n.toNat := by omega
      subst this
      intro _
      refine hn ?_ w2 hj2 m2 hp2
      rw [← hR, hxy, isoR_end]

end Go.Proofs.Ytkadckhealbdaaa

/- The reading of impl_Colouring_leading, and its contract. No condition. -/
namespace Go.Proofs.Ytkadckhealbdaaa
open Go Go.RowKit Eng Mem
set_option linter.unusedVariables false
set_option maxRecDepth 100000
def V_impl_Colouring_leading (x0 : Value) (y1 : Value) (with2 : Value) (w : World) (K : Bool → World → Prop) : Prop :=
  (Fc Try.prog 120 #[x0] w (.one .any) fun (x11_2 : Value) w_1 => (Fc Try.prog 119 #[x0, y1, x11_2] w_1 (.one .any) fun (x12_4 : Value) w_3 => (QAll Try.prog (do eqGuard .eql 111 (.tmp 13) (.const (.pointer none)) x12_4 (.pointer none); binOp .eql 111 x12_4 (.pointer none)) .bool fun (x14_5 : Bool) => ((x14_5 = true → K true w_3) ∧ (x14_5 = false → (Pr Try.prog (Instr.makeSlice 31 (.int .i64 (0 : Int)) (.int .i64 (17 : Int))) w_3 (.one .any) fun (x17_7 : Value) w_6 => (Fc Try.prog 121 #[x12_4, x17_7, with2] w_6 (.one .bool) fun (x19_9 : Bool) w_8 => K x19_9 w_8)))))))

theorem eq_impl_Colouring_leading (x0 : Value) (y1 : Value) (with2 : Value) (w : World) (K : Bool → World → Prop) :
    W Try.prog ty (fun _ _ _ _ => False) (bodyOf Try.f99) (fnPost Try.prog Try.f99.results.toList (.one .bool) K) (frame0 [x0, y1, with2] 21) w = V_impl_Colouring_leading x0 y1 with2 w K := by
  kernel_rfl

theorem body_impl_Colouring_leading : Try.f99.body = some (bodyOf Try.f99) := by kernel_rfl
theorem name_impl_Colouring_leading : (Try.f99.name == "runtime.NumGoroutine") = false := by kernel_rfl

theorem walk_impl_Colouring_leading (x0 : Value) (y1 : Value) (with2 : Value) {w : World} {K : Bool → World → Prop} (h : V_impl_Colouring_leading x0 y1 with2 w K) : Fc Try.prog 99 #[x0, y1, with2] w (.one .bool) K :=
  fn_ok follows (sound_none _) Try.func99 name_impl_Colouring_leading body_impl_Colouring_leading Try.ntmps99 [x0, y1, with2] (Eq.mpr (eq_impl_Colouring_leading x0 y1 with2 w K) h)

-- uses S9IsoM
theorem eqPT {a : Option Addr} {ox oy : Operand} {K : Bool → Prop} (hK : K a.isNone) : QAll Try.prog (do eqGuard .eql tPT ox oy (.pointer a) (.pointer none); binOp .eql tPT (.pointer a) (.pointer none)) .bool K := ⟨_, fun w => eqPT_run a ox oy w, hK⟩
theorem c_impl_Colouring_leading {px py f : Value} {x y : Col} {w : World} {K : Bool → World → Prop} (J : World → Prop) (Q : List Int → World → Prop) (hx : x.Ok) (hy : y.Ok) (Ix : x.Is) (Iy : y.Is) (ax : ColAt w px x) (ay : ColAt w py y) (hj : J w)
    (hst : ∀ w1 w2, J w1 → Below w.heap.size w1 w2 → J w2)
    (hcall : ∀ (l : List Int) (v : Value) (w' : World) (K' : Bool → World → Prop), J w' → Below w.heap.size w w' → l.length ≤ 17 → SlI w' v l → (∀ w'', Q l w'' → K' false w'') → callV Try.prog f #[v] w' (.one .bool) K')
    (hn : isoOf x y = none → ∀ w', Below w.heap.size w w' → J w' → K true w') (hs : ∀ l, isoOf x y = some l → ∀ w', Q l w' → K false w') :
    Fc Try.prog F_impl_Colouring_leading #[px, py, f] w (.one .bool) K := by
  have n0 := Ix.1; have n1 := Ix.2.1
  unfold isoOf at hn hs
  refine walk_impl_Colouring_leading _ _ _ (c_impl_Colouring_points ax n1 fun po w1 bo hbo q1 ho => ?_)
  have hol := selT_len x.n.toNat
  refine c_impl_newTracer hx hy Ix Iy (ax.keep q1) (ay.keep q1) (own_slI ho (by omega)) (fun hne w2 q2 => ?_) (fun hxy hk w2 b S hb q2 h2 hS => ?_)
  · have q12 := q1.trans (q2.mono q1.size)
    refine eqPT ⟨fun _ => ?_, fun h => absurd h (by simp)⟩
    exact hn (by rw [if_neg hne]) w2 q12 (hst _ _ hj q12)
  · have q12 := q1.trans (q2.mono q1.size)
    have hs1 := q1.size; have hs2 := q2.size
    refine eqPT (a := some ⟨b, 0, none⟩) ⟨fun h => absurd h (by simp), fun _ => mkC fun bp w3 hbp q3 hp => ?_⟩
    have q13 := q12.trans (q3.mono q12.size)
    have ho3 := (ho.keep q2).keep q3
    have hlo := ho.lt
    have h3 : Blk w3 b (trV px py po S) tTr := below_at q3 h2 (at_lt h2)
    have hlb := at_lt h2
    rw [if_pos ⟨hxy, hk⟩] at hn hs
    refine c_impl_tracer_all (b := b) (bp := bp) (px := px) (py := py) (po := po) (S := S) (fun w' => J w' ∧ Below w.heap.size w w' ∧ Blk w' b (trV px py po S) tTr ∧ OwnI w' bo po (sel (fun _ => true) x.n.toNat)) Q hx hy n0 n1 hxy hS
      (fun w' hj' => ⟨hj'.2.2.1, ax.keep hj'.2.1, ay.keep hj'.2.1, own_slI hj'.2.2.2 (by omega)⟩)
      (fun w1' w2' hj' m => ?_)
      (fun l w' K' hl hj' hc hk' => hcall l _ w' K' hj'.1 hj'.2.1 (by omega) hc.sl hk')
      x.n.toNat [] w3 _ (by simp) ⟨hst _ _ hj q13, q13, h3, ho3⟩ hp (by simp) (fun hnone w4 hj4 m4 _ => hn hnone w4 hj4.2.1 hj4.1) (fun l hsome w4 hq => hs l hsome w4 hq)
    have hz := hj'.2.1.size
    have mb : Below w.heap.size w1' w2' := m.below (by omega) (by simp; omega)
    exact ⟨hst _ _ hj'.1 mb, hj'.2.1.trans mb, m.at_ hj'.2.2.1 (by simp; omega), hj'.2.2.2.mod m (by simp; omega)⟩

end Go.Proofs.Ytkadckhealbdaaa

/- The reading of slices_Clone_int64_int64, and its contract. No condition. -/
namespace Go.Proofs.Ytkadckhealbdaaa
open Go Go.RowKit Eng Mem
set_option linter.unusedVariables false
set_option maxRecDepth 100000
def V_slices_Clone_int64_int64 (s0 : Value) (w : World) (K : Value → World → Prop) : Prop :=
  (QAll Try.prog (do eqGuard .eql 31 (.tmp 3) (.const (.slice none 0 0)) s0 (.slice none 0 0); binOp .eql 31 s0 (.slice none 0 0)) .bool fun (x4_1 : Bool) => ((x4_1 = true → K ((.slice none 0 0) : Value) w) ∧ (x4_1 = false → (Pr Try.prog (Instr.buildSlice 31 0 #[]) w (.one .any) fun (x5_3 : Value) w_2 => (Pr Try.prog (Builtin.append_ #[31, 31] 31 #[x5_3, s0]) w_2 (.one .any) fun (x7_5 : Value) w_4 => K (x7_5 : Value) w_4)))))

theorem eq_slices_Clone_int64_int64 (s0 : Value) (w : World) (K : Value → World → Prop) :
    W Try.prog ty (fun _ _ _ _ => False) (bodyOf Try.f64) (fnPost Try.prog Try.f64.results.toList (.one .any) K) (frame0 [s0] 8) w = V_slices_Clone_int64_int64 s0 w K := by
  kernel_rfl

theorem body_slices_Clone_int64_int64 : Try.f64.body = some (bodyOf Try.f64) := by kernel_rfl
theorem name_slices_Clone_int64_int64 : (Try.f64.name == "runtime.NumGoroutine") = false := by kernel_rfl

theorem walk_slices_Clone_int64_int64 (s0 : Value) {w : World} {K : Value → World → Prop} (h : V_slices_Clone_int64_int64 s0 w K) : Fc Try.prog 64 #[s0] w (.one .any) K :=
  fn_ok follows (sound_none _) Try.func64 name_slices_Clone_int64_int64 body_slices_Clone_int64_int64 Try.ntmps64 [s0] (Eq.mpr (eq_slices_Clone_int64_int64 s0 w K) h)

-- uses S2Sl
theorem c_slices_Clone_int64_int64 {a : Value} {l : List Int} {w : World} {K : Value → World → Prop} (h : SlI w a l) (hl : l.length ≤ 1099511627776) (hK : ∀ v w', Below w.heap.size w w' → MyI w.heap.size w'.heap.size w' v l → K v w') :
    Fc Try.prog F_slices_Clone_int64_int64 #[a] w (.one .any) K := by
  refine walk_slices_Clone_int64_int64 _ (nil_I h fun b hb => ⟨fun ht => ?_, fun _ => ?_⟩)
  · have := hb ht
    subst this
    exact hK _ w (Below.refl _ _) (myI_nil _ _ _)
  · refine nilI fun b v w1 hb1 hbel ho => ?_
    refine appsI ho (h.keep hbel) (by simpa using hl) fun v' w2 b2 o m hb2 => ?_
    have hs := hbel.size
    rw [List.nil_append] at o
    exact hK _ w2 (hbel.trans (m.below (by omega) (by simp; omega))) (own_my o hl (by omega) o.lt)

end Go.Proofs.Ytkadckhealbdaaa

/- The reading of impl_Colouring_renumbering_1, and its contract. No condition. -/
namespace Go.Proofs.Ytkadckhealbdaaa
open Go Go.RowKit Eng Mem
set_option linter.unusedVariables false
set_option maxRecDepth 100000
def V_impl_Colouring_renumbering_1 (p0 : Value) (x1 : Value) (w : World) (K : Bool → World → Prop) : Prop :=
  (Fc Try.prog 64 #[p0] w (.one .any) fun (x5_2 : Value) w_1 => (PrU Try.prog (Instr.storeAt 31 x1 x5_2) w_1 fun w_3 => K false w_3))

theorem eq_impl_Colouring_renumbering_1 (p0 : Value) (x1 : Value) (w : World) (K : Bool → World → Prop) :
    W Try.prog ty (fun _ _ _ _ => False) (bodyOf Try.f100) (fnPost Try.prog Try.f100.results.toList (.one .bool) K) (frame0 [p0, x1] 6) w = V_impl_Colouring_renumbering_1 p0 x1 w K := by
  kernel_rfl

theorem body_impl_Colouring_renumbering_1 : Try.f100.body = some (bodyOf Try.f100) := by kernel_rfl
theorem name_impl_Colouring_renumbering_1 : (Try.f100.name == "runtime.NumGoroutine") = false := by kernel_rfl

theorem walk_impl_Colouring_renumbering_1 (p0 : Value) (x1 : Value) {w : World} {K : Bool → World → Prop} (h : V_impl_Colouring_renumbering_1 p0 x1 w K) : Fc Try.prog 100 #[p0, x1] w (.one .bool) K :=
  fn_ok follows (sound_none _) Try.func100 name_impl_Colouring_renumbering_1 body_impl_Colouring_renumbering_1 Try.ntmps100 [p0, x1] (Eq.mpr (eq_impl_Colouring_renumbering_1 p0 x1 w K) h)

-- uses S9IsoM
theorem c_impl_Colouring_renumbering_1 {v v0 : Value} {bv : Nat} {l : List Int} {w : World} {K : Bool → World → Prop} (hv : SlI w v l) (hl : l.length ≤ 17) (hb : Blk w bv [v0] tSI)
    (hK : ∀ u w', Mod [bv] w w' → MyI w.heap.size w'.heap.size w' u l → Blk w' bv [u] tSI → K false w') : Fc Try.prog F_impl_Colouring_renumbering_1 #[v, ptr bv 0] w (.one .bool) K := by
  refine walk_impl_Colouring_renumbering_1 _ _ (c_slices_Clone_int64_int64 hv (by omega) fun u w1 q1 hu => ?_)
  have one : u.oneCell' = true := by
    rcases hu with ⟨_, ⟨rfl, _⟩ | ⟨c, _, _, ho⟩⟩
    · rfl
    · exact own_one_I ho
  have hlt := at_lt hb
  refine st y1SI (below_at q1 hb hlt) (by simp) one fun w2 m2 s2 h2 => hK u w2 ((mod_of_below q1 _).trans m2) ?_ h2
  have hz := q1.size
  rw [s2]
  exact hu.modr (m2.r (B := 0) (E := w.heap.size) (by omega) hlt) (by omega)

end Go.Proofs.Ytkadckhealbdaaa

/- The reading of impl_Colouring_renumbering, and its contract. No condition. -/
namespace Go.Proofs.Ytkadckhealbdaaa
open Go Go.RowKit Eng Mem
set_option linter.unusedVariables false
set_option maxRecDepth 100000
def V_impl_Colouring_renumbering (x0 : Value) (y1 : Value) (w : World) (K : (Value × Bool) → World → Prop) : Prop :=
  (Pr Try.prog (Instr.buildSlice 31 0 #[]) w (.one .any) fun (x8_2 : Value) w_1 => (Pr Try.prog (Instr.alloc 31 true (.tuple #[])) w_1 (.one .any) fun (out6_4 : Value) w_3 => (PrU Try.prog (Instr.storeAt 31 out6_4 x8_2) w_3 fun w_5 => (Fc Try.prog 99 #[x0, y1, (.func (.func 100) #[] #[out6_4])] w_5 (.one .bool) fun (x12_8 : Bool) w_7 => (QSub Try.prog (Instr.loadAt 31 out6_4) w_7 .any fun (x13_9 : Value) => K ((x13_9 : Value), (!x12_8)) w_7)))))

theorem eq_impl_Colouring_renumbering (x0 : Value) (y1 : Value) (w : World) (K : (Value × Bool) → World → Prop) :
    W Try.prog ty (fun _ _ _ _ => False) (bodyOf Try.f68) (fnPost Try.prog Try.f68.results.toList (.two .any .bool) K) (frame0 [x0, y1] 16) w = V_impl_Colouring_renumbering x0 y1 w K := by
  kernel_rfl

theorem body_impl_Colouring_renumbering : Try.f68.body = some (bodyOf Try.f68) := by kernel_rfl
theorem name_impl_Colouring_renumbering : (Try.f68.name == "runtime.NumGoroutine") = false := by kernel_rfl

theorem walk_impl_Colouring_renumbering (x0 : Value) (y1 : Value) {w : World} {K : (Value × Bool) → World → Prop} (h : V_impl_Colouring_renumbering x0 y1 w K) : Fc Try.prog 68 #[x0, y1] w (.two .any .bool) K :=
  fn_ok follows (sound_none _) Try.func68 name_impl_Colouring_renumbering body_impl_Colouring_renumbering Try.ntmps68 [x0, y1] (Eq.mpr (eq_impl_Colouring_renumbering x0 y1 w K) h)

-- uses S9IsoM
theorem c_impl_Colouring_renumbering {px py : Value} {x y : Col} {w : World} {K : Value × Bool → World → Prop} (hx : x.Ok) (hy : y.Ok) (Ix : x.Is) (Iy : y.Is) (ax : ColAt w px x) (ay : ColAt w py y)
    (hK : ∀ v w', Below w.heap.size w w' → MyI w.heap.size w'.heap.size w' v ((isoOf x y).getD []) → K (v, (isoOf x y).isSome) w') : Fc Try.prog F_impl_Colouring_renumbering #[px, py] w (.two .any .bool) K := by
  refine walk_impl_Colouring_renumbering _ _ (nilI fun b0 v0 w1 e0 q1 o0 => alloc1 y1SI fun bv w2 m2 => st y1SI m2.at_ (by simp) (own_one_I o0) fun w3 m3 s3 h3 => ?_)
  have h3 : Blk w3 bv [v0] tSI := h3
  have e2 := m2.here; have s2 := m2.size; have hs1 := q1.size
  have q3 : Below w.heap.size w w3 := (q1.trans (m2.below.mono hs1)).trans (m3.below (by omega) (by simp; omega))
  have hl0 := o0.lt
  have o3 : OwnI w3 b0 v0 [] := (o0.keep m2.below).mod m3 (by simp; omega)
  have hs3 := q3.size
  refine c_impl_Colouring_leading (fun w' => Below w.heap.size w w' ∧ Blk w' bv [v0] tSI ∧ OwnI w' b0 v0 []) (fun l w' => ∃ u, Below w.heap.size w w' ∧ MyI w.heap.size w'.heap.size w' u l ∧ Blk w' bv [u] tSI) hx hy Ix Iy (ax.keep q3) (ay.keep q3) ⟨q3, h3, o3⟩
    (fun w1' w2' hj q => ?_) (fun l v w' K' hj q hl hv hk' => cv rfl (c_impl_Colouring_renumbering_1 hv hl hj.2.1 fun u w'' m hu hb => hk' w'' ⟨u, hj.1.trans (m.below (by have := hj.1.size; omega) (by simp; omega)), hu.mono (by have := hj.1.size; omega) (Nat.le_refl _), hb⟩))
    (fun hnone w4 q4 hj => ?_) (fun l hsome w4 hq => ?_)
  · have hb := at_lt h3
    have hz := hj.1.size
    refine ⟨hj.1.trans (q.mono (by omega)), ?_, ?_⟩
    · rw [Blk, q.block bv hb]; exact hj.2.1
    · obtain ⟨cap, l', hv, hb', r⟩ := hj.2.2
      exact ⟨cap, l', hv, by rw [Blk, q.block b0 (by omega)]; exact hb', r⟩
  · refine ld (k := .any) y1SI (row_all (cs := [_]) hj.2.1) ?_
    have := hK v0 w4 hj.1
    rw [hnone] at this
    exact this (own_my hj.2.2 (by simp) (by omega) hj.2.2.lt)
  · obtain ⟨u, q4, hu, hb⟩ := hq
    refine ld (k := .any) y1SI (row_all (cs := [_]) hb) ?_
    have := hK u w4 q4
    rw [hsome] at this
    exact this hu

end Go.Proofs.Ytkadckhealbdaaa

/- The reading of impl_sizeS, and its contract. No condition. -/
namespace Go.Proofs.Ytkadckhealbdaaa
open Go Go.RowKit Eng Mem
set_option linter.unusedVariables false
set_option maxRecDepth 100000
def V_impl_sizeS (list0 : Value) (w : World) (K : Int → World → Prop) : Prop :=
  (QAll Try.prog (Builtin.len_ #[31] 3 #[list0]) (.int .i64) fun (x4_1 : Int) => K x4_1 w)

theorem eq_impl_sizeS (list0 : Value) (w : World) (K : Int → World → Prop) :
    W Try.prog ty (fun _ _ _ _ => False) (bodyOf Try.f58) (fnPost Try.prog Try.f58.results.toList (.one (.int .i64)) K) (frame0 [list0] 5) w = V_impl_sizeS list0 w K := by
  kernel_rfl

theorem body_impl_sizeS : Try.f58.body = some (bodyOf Try.f58) := by kernel_rfl
theorem name_impl_sizeS : (Try.f58.name == "runtime.NumGoroutine") = false := by kernel_rfl

theorem walk_impl_sizeS (list0 : Value) {w : World} {K : Int → World → Prop} (h : V_impl_sizeS list0 w K) : Fc Try.prog 58 #[list0] w (.one (.int .i64)) K :=
  fn_ok follows (sound_none _) Try.func58 name_impl_sizeS body_impl_sizeS Try.ntmps58 [list0] (Eq.mpr (eq_impl_sizeS list0 w K) h)

-- uses S2Sl
theorem c_impl_sizeS {a : Value} {l : List Int} {w : World} {K : Int → World → Prop} (h : SlI w a l) (hK : K (l.length : Int) w) : Fc Try.prog F_impl_sizeS #[a] w (.one (.int .i64)) K :=
  walk_impl_sizeS _ (lenI h hK)

end Go.Proofs.Ytkadckhealbdaaa

/- The reading of slices_Index_int64_int64, and its contract. No condition. -/
namespace Go.Proofs.Ytkadckhealbdaaa
open Go Go.RowKit Eng Mem
set_option linter.unusedVariables false
set_option maxRecDepth 100000
def B_slices_Index_int64_int64_2 (s0 : Value) (v1 : Int) (x7 : Int) (x8 : Int) (N : (Value × Int × Int) → Int → World → Prop) (D0 : (Unit) → World → Prop) (R : (Int × Unit) → World → Prop) (w : World) : Prop :=
  (((decide (x8 < x7)) = true → (QAll Try.prog (Instr.indexAt 31 s0 (.int .i64 x8)) .any fun (x14_2 : Value) => (QSub Try.prog (Instr.loadAt 2 x14_2) w (.int .i64) fun (x15_3 : Int) => (((v1 == x15_3) = true → R (x8, ()) w) ∧ ((v1 == x15_3) = false → N ((s0 : Value), v1, x7) (IntKind.i64.wrap (x8 + (1 : Int))) w))))) ∧ ((decide (x8 < x7)) = false → D0 () w))

abbrev L_slices_Index_int64_int64_2_e0 : List Slot := [.junk, .junk, .junk, .junk, .junk, .junk, .junk, .junk, .junk, .junk, .junk, .junk, .junk, .junk, .junk, .junk, .junk, .junk, .junk]

abbrev L_slices_Index_int64_int64_2_sp : List Slot := [.k .any, .k (.int .i64), .junk, .junk, .junk, .junk, .junk, .k (.int .i64), .k (.int .i64), .junk, .junk, .junk, .junk, .junk, .junk, .junk, .junk, .junk, .junk]
abbrev L_slices_Index_int64_int64_2_ex : List (Nat × List Slot) := [(0, L_slices_Index_int64_int64_2_e0)]
abbrev L_slices_Index_int64_int64_2_rt : List Slot := [.junk, .junk, .junk, .junk, .k (.int .i64), .junk, .junk, .junk, .junk, .junk, .junk, .junk, .junk, .junk, .junk, .junk, .junk, .junk, .junk]

def L_slices_Index_int64_int64_2_b (Φ : Post) (u : (Value × Int × Int)) (N : (Value × Int × Int) → Int → World → Prop) (s : Int) (w : World) : Prop :=
  B_slices_Index_int64_int64_2 u.1 u.2.1 u.2.2 s N (fun v w => ∀ j : Nat → Value, Φ (.exit 0) (mkT j 0 L_slices_Index_int64_int64_2_e0 v) w) (fun v w => ∀ j : Nat → Value, Φ .ret (mkT j 0 L_slices_Index_int64_int64_2_rt v) w) w

theorem L_slices_Index_int64_int64_2_eq (j : Nat → Value) (u : (Value × Int × Int)) (s : Int) (N : (Value × Int × Int) → Int → World → Prop) (D0 : (Unit) → World → Prop) (R : (Int × Unit) → World → Prop) (w : World) :
    W Try.prog ty (fun _ _ _ _ => False) (loopAt Try.f140 2) (loopPost L_slices_Index_int64_int64_2_sp [(0, (⟨L_slices_Index_int64_int64_2_e0, D0⟩ : Door))] ⟨L_slices_Index_int64_int64_2_rt, R⟩ (fun v w => N ((fun v => (v.1, v.2.1, v.2.2.1)) v) ((fun v => v.2.2.2.1) v) w)) (mkT j 0 L_slices_Index_int64_int64_2_sp ((fun u s => (u.1, u.2.1, u.2.2, s, ())) u s)) w =
    B_slices_Index_int64_int64_2 u.1 u.2.1 u.2.2 s N D0 R w := by
  kernel_rfl

def O_slices_Index_int64_int64_1 : Code → Post → List SV → World → Prop :=
  orc 2 (loopAt Try.f140 2) L_slices_Index_int64_int64_2_sp (fun Φ fr w => LOOP (U := (Value × Int × Int)) (S := Int) ((fun v => (v.1, v.2.1, v.2.2.1)) (extT L_slices_Index_int64_int64_2_sp fr)) (L_slices_Index_int64_int64_2_b Φ ((fun v => (v.1, v.2.1, v.2.2.1)) (extT L_slices_Index_int64_int64_2_sp fr))) ((fun v => v.2.2.2.1) (extT L_slices_Index_int64_int64_2_sp fr)) w) (fun _ _ _ _ => False)

theorem O_slices_Index_int64_int64_1_ok : Sound Try.prog O_slices_Index_int64_int64_1 :=
  orc_ok (sound_none _) fun Φ fr w hs h => loop_ok (ty := ty) follows (sound_none _) L_slices_Index_int64_int64_2_sp (fun v => (v.1, v.2.1, v.2.2.1)) (fun v => v.2.2.2.1) (fun u s => (u.1, u.2.1, u.2.2, s, ())) (fun _ => rfl) L_slices_Index_int64_int64_2_ex L_slices_Index_int64_int64_2_rt (body := L_slices_Index_int64_int64_2_b Φ) (fun j u s w N hb => by
    have e := L_slices_Index_int64_int64_2_eq j u s N (doorOf Φ (.exit 0) L_slices_Index_int64_int64_2_e0).D (doorOf Φ .ret L_slices_Index_int64_int64_2_rt).D w
    exact Eq.mpr e hb) hs h

def V_slices_Index_int64_int64 (s0 : Value) (v1 : Int) (w : World) (K : Int → World → Prop) : Prop :=
  (QAll Try.prog (Builtin.len_ #[31] 3 #[s0]) (.int .i64) fun (x7_1 : Int) => (At (loopAt Try.f140 2) (loopAt Try.f140 2) (LOOP (U := (Value × Int × Int)) (S := Int) ((s0 : Value), v1, x7_1) (fun N_10 s_11 w_12 => B_slices_Index_int64_int64_2 (s0 : Value) v1 x7_1 s_11 N_10 (fun (v_4 : (Unit)) w_5 => ∀ _j_6 : Nat → Value, K (-1 : Int) w_5) (fun (v_7 : (Int × Unit)) w_8 => ∀ _j_9 : Nat → Value, K v_7.1 w_8) w_12) (0 : Int) w)))

theorem eq_slices_Index_int64_int64 (s0 : Value) (v1 : Int) (w : World) (K : Int → World → Prop) :
    W Try.prog ty O_slices_Index_int64_int64_1 (bodyOf Try.f140) (fnPost Try.prog Try.f140.results.toList (.one (.int .i64)) K) (frame0 [s0, (.int .i64 v1)] 19) w = V_slices_Index_int64_int64 s0 v1 w K := by
  kernel_rfl

theorem body_slices_Index_int64_int64 : Try.f140.body = some (bodyOf Try.f140) := by kernel_rfl
theorem name_slices_Index_int64_int64 : (Try.f140.name == "runtime.NumGoroutine") = false := by kernel_rfl

theorem walk_slices_Index_int64_int64 (s0 : Value) (v1 : Int) {w : World} {K : Int → World → Prop} (h : V_slices_Index_int64_int64 s0 v1 w K) : Fc Try.prog 140 #[s0, (.int .i64 v1)] w (.one (.int .i64)) K :=
  fn_ok follows O_slices_Index_int64_int64_1_ok Try.func140 name_slices_Index_int64_int64 body_slices_Index_int64_int64 Try.ntmps140 [s0, (.int .i64 v1)] (Eq.mpr (eq_slices_Index_int64_int64 s0 v1 w K) h)

-- uses S2Sl
theorem c_slices_Index_int64_int64 {s : Value} {l : List Int} {v : Int} {w : World} {K : Int → World → Prop} (h : SlI w s l)
    (hK : ∀ r : Int, (r = -1 ∧ v ∉ l ∨ ∃ i : Nat, r = i ∧ i < l.length ∧ l.getD i 0 = v ∧ ∀ j, j < i → l.getD j 0 ≠ v) → K r w) :
    Fc Try.prog F_slices_Index_int64_int64 #[s, .int .i64 v] w (.one (.int .i64)) K := by
  have hlen := h.len
  refine walk_slices_Index_int64_int64 _ _ (lenI h ?_)
  refine lp (fun i w' => 0 ≤ i ∧ i ≤ l.length ∧ w' = w ∧ ∀ j : Nat, (j : Int) < i → l.getD j 0 ≠ v) (fun i _ => (l.length - i).toNat)
    ⟨by omega, by omega, rfl, fun j hj => by omega⟩ ?_
  rintro i w1 N ⟨h0, hi, rfl, hall⟩ hN
  unfold B_slices_Index_int64_int64_2
  refine ⟨fun hlt => ?_, fun hge => ?_⟩
  · have hlt := dec_t hlt
    refine atI h h0 hlt ⟨fun he _ => hK _ (.inr ⟨i.toNat, by omega, by omega, (eq_t he).symm, fun j hj => hall j (by omega)⟩), fun hn => ?_⟩
    rw [wrap_small (by omega) (by omega)]
    refine hN _ _ ⟨by omega, by omega, rfl, fun j hj => ?_⟩ (by omega)
    by_cases hji : (j : Int) < i
    · exact hall j hji
    · have : j = i.toNat := by omega
      subst this; exact fun he => eq_f hn he.symm
  · have hge := dec_f hge
    refine fun _ => hK _ (.inl ⟨rfl, fun hm => ?_⟩)
    obtain ⟨j, hj, he⟩ := List.getElem_of_mem hm
    exact hall j (by omega) (by simpa [List.getD, hj] using he)

end Go.Proofs.Ytkadckhealbdaaa

/- The reading of slices_Contains_int64_int64, and its contract. No condition. -/
namespace Go.Proofs.Ytkadckhealbdaaa
open Go Go.RowKit Eng Mem
set_option linter.unusedVariables false
set_option maxRecDepth 100000
def V_slices_Contains_int64_int64 (s0 : Value) (v1 : Int) (w : World) (K : Bool → World → Prop) : Prop :=
  (Fc Try.prog 140 #[s0, (.int .i64 v1)] w (.one (.int .i64)) fun (x7_2 : Int) w_1 => K (decide (x7_2 ≥ (0 : Int))) w_1)

theorem eq_slices_Contains_int64_int64 (s0 : Value) (v1 : Int) (w : World) (K : Bool → World → Prop) :
    W Try.prog ty (fun _ _ _ _ => False) (bodyOf Try.f132) (fnPost Try.prog Try.f132.results.toList (.one .bool) K) (frame0 [s0, (.int .i64 v1)] 9) w = V_slices_Contains_int64_int64 s0 v1 w K := by
  kernel_rfl

theorem body_slices_Contains_int64_int64 : Try.f132.body = some (bodyOf Try.f132) := by kernel_rfl
theorem name_slices_Contains_int64_int64 : (Try.f132.name == "runtime.NumGoroutine") = false := by kernel_rfl

theorem walk_slices_Contains_int64_int64 (s0 : Value) (v1 : Int) {w : World} {K : Bool → World → Prop} (h : V_slices_Contains_int64_int64 s0 v1 w K) : Fc Try.prog 132 #[s0, (.int .i64 v1)] w (.one .bool) K :=
  fn_ok follows (sound_none _) Try.func132 name_slices_Contains_int64_int64 body_slices_Contains_int64_int64 Try.ntmps132 [s0, (.int .i64 v1)] (Eq.mpr (eq_slices_Contains_int64_int64 s0 v1 w K) h)

-- uses S2Sl
theorem c_slices_Contains_int64_int64 {s : Value} {l : List Int} {v : Int} {w : World} {K : Bool → World → Prop} (h : SlI w s l) (hK : K (l.contains v) w) :
    Fc Try.prog F_slices_Contains_int64_int64 #[s, .int .i64 v] w (.one .bool) K := by
  refine walk_slices_Contains_int64_int64 _ _ (c_slices_Index_int64_int64 h fun r hr => ?_)
  rcases hr with ⟨rfl, hn⟩ | ⟨i, rfl, hi, he, _⟩
  · rw [show l.contains v = false by simpa using hn] at hK; exact hK
  · rw [show l.contains v = true by
      have : v ∈ l := by rw [← he]; simp only [List.getD, hi, List.getElem?_eq_getElem, Option.getD_some]; exact List.getElem_mem hi
      simpa using this] at hK
    rw [decide_eq_true (by omega)]; exact hK

end Go.Proofs.Ytkadckhealbdaaa

/- The reading of impl_orders, and its contract. No condition. -/
namespace Go.Proofs.Ytkadckhealbdaaa
open Go Go.RowKit Eng Mem
set_option linter.unusedVariables false
set_option maxRecDepth 100000
def B_impl_orders_5 (n0 : Int) (list1 : Value) (x14 : Int) (out5 : Value) (x15 : Int) (N : (Int × Value × Int) → (Value × Int) → World → Prop) (D0 : (Value × Unit) → World → Prop) (w : World) : Prop :=
  (((decide (x15 < x14)) = true → (Fc Try.prog 132 #[list1, (.int .i64 x15)] w (.one .bool) fun (x20_8 : Bool) w_7 => (((!x20_8) = true → (Fc Try.prog 64 #[list1] w_7 (.one .any) fun (x25_10 : Value) w_9 => (Pr Try.prog (Instr.buildSlice 31 1 #[(0, (.int .i64 x15))]) w_9 (.one .any) fun (x27_12 : Value) w_11 => (Pr Try.prog (Builtin.append_ #[31, 31] 31 #[x25_10, x27_12]) w_11 (.one .any) fun (x28_14 : Value) w_13 => (Fc Try.prog 112 #[(.int .i64 n0), x28_14] w_13 (.one .any) fun (x29_16 : Value) w_15 => (Pr Try.prog (Builtin.append_ #[68, 68] 68 #[out5, x29_16]) w_15 (.one .any) fun (x30_18 : Value) w_17 => N (n0, (list1 : Value), x14) ((x30_18 : Value), (IntKind.i64.wrap (x15 + (1 : Int)))) w_17)))))) ∧ ((!x20_8) = false → N (n0, (list1 : Value), x14) ((out5 : Value), (IntKind.i64.wrap (x15 + (1 : Int)))) w_7)))) ∧ ((decide (x15 < x14)) = false → D0 ((out5 : Value), ()) w))

abbrev L_impl_orders_5_e0 : List Slot := [.junk, .junk, .junk, .junk, .junk, .k .any, .junk, .junk, .junk, .junk, .junk, .junk, .junk, .junk, .junk, .junk, .junk, .junk, .junk, .junk, .junk, .junk, .junk, .junk, .junk, .junk, .junk, .junk, .junk, .junk, .junk, .junk, .junk]

abbrev L_impl_orders_5_sp : List Slot := [.k (.int .i64), .k .any, .junk, .junk, .junk, .k .any, .junk, .junk, .junk, .junk, .junk, .junk, .junk, .junk, .k (.int .i64), .k (.int .i64), .junk, .junk, .junk, .junk, .junk, .junk, .junk, .junk, .junk, .junk, .junk, .junk, .junk, .junk, .junk, .junk, .junk]
abbrev L_impl_orders_5_ex : List (Nat × List Slot) := [(0, L_impl_orders_5_e0)]
abbrev L_impl_orders_5_rt : List Slot := [.junk, .junk, .junk, .junk, .junk, .junk, .junk, .junk, .junk, .junk, .junk, .junk, .junk, .junk, .junk, .junk, .junk, .junk, .junk, .junk, .junk, .junk, .junk, .junk, .junk, .junk, .junk, .junk, .junk, .junk, .junk, .junk, .junk]

def L_impl_orders_5_b (Φ : Post) (u : (Int × Value × Int)) (N : (Int × Value × Int) → (Value × Int) → World → Prop) (s : (Value × Int)) (w : World) : Prop :=
  B_impl_orders_5 u.1 u.2.1 u.2.2 s.1 s.2 N (fun v w => ∀ j : Nat → Value, Φ (.exit 0) (mkT j 0 L_impl_orders_5_e0 v) w) w

theorem L_impl_orders_5_eq (j : Nat → Value) (u : (Int × Value × Int)) (s : (Value × Int)) (N : (Int × Value × Int) → (Value × Int) → World → Prop) (D0 : (Value × Unit) → World → Prop) (R : (Unit) → World → Prop) (w : World) :
    W Try.prog ty (fun _ _ _ _ => False) (loopAt Try.f112 5) (loopPost L_impl_orders_5_sp [(0, (⟨L_impl_orders_5_e0, D0⟩ : Door))] ⟨L_impl_orders_5_rt, R⟩ (fun v w => N ((fun v => (v.1, v.2.1, v.2.2.2.1)) v) ((fun v => (v.2.2.1, v.2.2.2.2.1)) v) w)) (mkT j 0 L_impl_orders_5_sp ((fun u s => (u.1, u.2.1, s.1, u.2.2, s.2, ())) u s)) w =
    B_impl_orders_5 u.1 u.2.1 u.2.2 s.1 s.2 N D0 w := by
  kernel_rfl

def O_impl_orders_1 : Code → Post → List SV → World → Prop :=
  orc 5 (loopAt Try.f112 5) L_impl_orders_5_sp (fun Φ fr w => LOOP (U := (Int × Value × Int)) (S := (Value × Int)) ((fun v => (v.1, v.2.1, v.2.2.2.1)) (extT L_impl_orders_5_sp fr)) (L_impl_orders_5_b Φ ((fun v => (v.1, v.2.1, v.2.2.2.1)) (extT L_impl_orders_5_sp fr))) ((fun v => (v.2.2.1, v.2.2.2.2.1)) (extT L_impl_orders_5_sp fr)) w) (fun _ _ _ _ => False)

theorem O_impl_orders_1_ok : Sound Try.prog O_impl_orders_1 :=
  orc_ok (sound_none _) fun Φ fr w hs h => loop_ok (ty := ty) follows (sound_none _) L_impl_orders_5_sp (fun v => (v.1, v.2.1, v.2.2.2.1)) (fun v => (v.2.2.1, v.2.2.2.2.1)) (fun u s => (u.1, u.2.1, s.1, u.2.2, s.2, ())) (fun _ => rfl) L_impl_orders_5_ex L_impl_orders_5_rt (body := L_impl_orders_5_b Φ) (fun j u s w N hb => by
    have e := L_impl_orders_5_eq j u s N (doorOf Φ (.exit 0) L_impl_orders_5_e0).D (doorOf Φ .ret L_impl_orders_5_rt).D w
    exact Eq.mpr e hb) hs h

def V_impl_orders (n0 : Int) (list1 : Value) (w : World) (K : Value → World → Prop) : Prop :=
  (Fc Try.prog 58 #[list1] w (.one (.int .i64)) fun (x8_2 : Int) w_1 => (((x8_2 == n0) = true → (Pr Try.prog (Instr.buildSlice 68 1 #[(0, list1)]) w_1 (.one .any) fun (x12_4 : Value) w_3 => K (x12_4 : Value) w_3)) ∧ ((x8_2 == n0) = false → (Pr Try.prog (Instr.buildSlice 68 0 #[]) w_1 (.one .any) fun (x13_6 : Value) w_5 => (At (loopAt Try.f112 5) (loopAt Try.f112 5) (LOOP (U := (Int × Value × Int)) (S := (Value × Int)) (n0, (list1 : Value), n0) (fun N_22 s_23 w_24 => B_impl_orders_5 n0 (list1 : Value) n0 s_23.1 s_23.2 N_22 (fun (v_19 : (Value × Unit)) w_20 => ∀ _j_21 : Nat → Value, K (v_19.1 : Value) w_20) w_24) ((x13_6 : Value), (0 : Int)) w_5))))))

theorem eq_impl_orders (n0 : Int) (list1 : Value) (w : World) (K : Value → World → Prop) :
    W Try.prog ty O_impl_orders_1 (bodyOf Try.f112) (fnPost Try.prog Try.f112.results.toList (.one .any) K) (frame0 [(.int .i64 n0), list1] 33) w = V_impl_orders n0 list1 w K := by
  kernel_rfl

theorem body_impl_orders : Try.f112.body = some (bodyOf Try.f112) := by kernel_rfl
theorem name_impl_orders : (Try.f112.name == "runtime.NumGoroutine") = false := by kernel_rfl

theorem walk_impl_orders (n0 : Int) (list1 : Value) {w : World} {K : Value → World → Prop} (h : V_impl_orders n0 list1 w K) : Fc Try.prog 112 #[(.int .i64 n0), list1] w (.one .any) K :=
  fn_ok follows O_impl_orders_1_ok Try.func112 name_impl_orders body_impl_orders Try.ntmps112 [(.int .i64 n0), list1] (Eq.mpr (eq_impl_orders n0 list1 w K) h)

-- uses S9Ords
theorem c_impl_orders {n : Nat} (hn : 1 ≤ n) (hn7 : n ≤ 7) : ∀ (f : Nat) (l : List Int) (v : Value) (B : Nat) (w : World) (K : Value → World → Prop), l.length + f = n → B ≤ w.heap.size → MyI B w.heap.size w v l →
    (∀ u w' b, w.heap.size ≤ b → Below w.heap.size w w' → MySS B b w' u (ordF n f l) → K u w') → Fc Try.prog F_impl_orders #[.int .i64 (n : Int), v] w (.one .any) K
  | f, l, v, B, w, K, hlen, hB, hv, hK => by
    refine walk_impl_orders _ _ (c_impl_sizeS hv.sl ⟨fun he => ?_, fun hne => ?_⟩)
    · have he := eq_t he
      have hf : f = 0 := by omega
      subst hf
      rcases hv with ⟨_, ⟨_, rfl⟩ | ⟨c, hc, _, ho⟩⟩
      · simp at hlen; omega
      · exact oneSS ho hc fun u w' b hb q h => hK u w' b hb q h
    · have hne := eq_f hne
      match f, hlen, hK with
      | 0, hlen, _ => omega
      | f + 1, hlen, hK =>
        have hpow : n ^ f ≤ 7 ^ 7 := Nat.le_trans (Nat.pow_le_pow_left hn7 f) (Nat.pow_le_pow_right (by omega) (by omega))
        refine nilSS fun b0 v0 w1 hb0 q1 _ h0 => ?_
        rw [ordF_succ] at hK
        refine lp (fun s w' => Below w.heap.size w w' ∧ ∃ (i b : Nat), s.2 = i ∧ i ≤ n ∧ w.heap.size ≤ b ∧ MySS B b w' s.1 (ordR n f l i)) (fun s _ => (17 - s.2).toNat) ⟨q1, 0, b0, rfl, by omega, hb0, h0.mono (by omega)⟩ ?_
        rintro ⟨u, t⟩ w2 N ⟨q2, i, b, hi, hin, hb, hu⟩ hN
        simp only at hi hu
        subst hi
        unfold B_impl_orders_5
        dsimp only
        have hs2 := q2.size
        have hv2 := (hv.keep q2).mono (Nat.le_refl _) hs2
        have hrl := ordR_len n f l i
        refine ⟨fun hlt => ?_, fun hge => ?_⟩
        · have hlt := dec_t hlt
          refine c_slices_Contains_int64_int64 hv2.sl ⟨fun hno => ?_, fun hyes => ?_⟩
          · have hno : (i : Int) ∉ l := by simpa using not_t hno
            refine c_slices_Clone_int64_int64 hv2.sl (by omega) fun x w3 q3 hx => ?_
            have hs3 := q3.size
            refine hx.app hs3 (by omega) fun x' w4 q4 hx' => ?_
            have q24 : Below w2.heap.size w2 w4 := q3.trans q4
            have hs4 := q24.size
            refine c_impl_orders hn hn7 f (l ++ [(i : Int)]) x' B w4 _ (by simp; omega) (by omega) (hx'.mono (by omega) (Nat.le_refl _)) fun y w5 b5 hb5 q5 hy => ?_
            have q25 := q24.trans (q5.mono hs4)
            have hyl := ordF_len n f (l ++ [(i : Int)])
            have hil : i * n ^ f ≤ 7 * 7 ^ 7 := Nat.mul_le_mul (by omega) hpow
            refine appsSS (hu.keep q25) hy (by omega) fun u' w6 b6 hu' m6 hb6 => ?_
            have hs5 := q25.size
            rw [wrap_small (by omega) (by omega)]
            refine hN _ _ ⟨(q2.trans (q25.mono hs2)).trans (m6.below (by omega) (by simp; omega)), i + 1, b6, by simp only; omega, by omega, by omega, ?_⟩ (by simp only; omega)
            rw [ordR_go hno]
            exact hu'
          · have hyes : (i : Int) ∈ l := by simpa using not_f hyes
            rw [wrap_small (by omega) (by omega)]
            refine hN _ _ ⟨q2, i + 1, b, by simp only; omega, by omega, hb, ?_⟩ (by simp only; omega)
            rw [ordR_skip hyes]
            exact hu
        · have hge := dec_f hge
          have : i = n := by omega
          subst this
          intro _
          exact hK u w2 b hb q2 hu

end Go.Proofs.Ytkadckhealbdaaa

/- The reading of impl_Colouring_alike, and its contract. No condition. -/
namespace Go.Proofs.Ytkadckhealbdaaa
open Go Go.RowKit Eng Mem
set_option linter.unusedVariables false
set_option maxRecDepth 100000
def B_impl_Colouring_alike_2 (x0 : Value) (y1 : Value) (x20 : Value) (x21 : Int) (x22 : Int) (N : (Value × Value × Value × Int) → Int → World → Prop) (D0 : (Unit) → World → Prop) (R : (Value × Value × Bool × Unit) → World → Prop) (w : World) : Prop :=
  (((decide (x22 < x21)) = true → (QAll Try.prog (Instr.indexAt 68 x20 (.int .i64 x22)) .any fun (x24_7 : Value) => (QSub Try.prog (Instr.loadAt 31 x24_7) w .any fun (x25_8 : Value) => (Pr Try.prog (Instr.alloc 31 true (.tuple #[])) w (.one .any) fun (q10_10 : Value) w_9 => (PrU Try.prog (Instr.storeAt 31 q10_10 x25_8) w_9 fun w_11 => (NilOk x0 ∧ (QAll Try.prog (Instr.fieldAt 25 x0 1) .any fun (x29_13 : Value) => (QSub Try.prog (Instr.loadAt 2 x29_13) w_11 (.int .i64) fun (x30_14 : Int) => (Fc Try.prog 49 #[x0, (.int .i64 x30_14), (.func (.func 113) #[] #[q10_10])] w_11 (.one .any) fun (x32_16 : Value) w_15 => (Pr Try.prog (Instr.alloc 25 true (.tuple #[])) w_15 (.one .any) fun (own11_18 : Value) w_17 => (PrU Try.prog (Instr.storeAt 25 own11_18 x32_16) w_17 fun w_19 => (Fc Try.prog 68 #[own11_18, y1] w_19 (.two .any .bool) fun (x35_22 : Value × Bool) w_21 => ((x35_22.2 = true → (QSub Try.prog (Instr.loadAt 31 q10_10) w_21 .any fun (x39_23 : Value) => R ((x39_23 : Value), (x35_22.1 : Value), true, ()) w_21)) ∧ (x35_22.2 = false → N ((x0 : Value), (y1 : Value), (x20 : Value), x21) (IntKind.i64.wrap (x22 + (1 : Int))) w_21)))))))))))))) ∧ ((decide (x22 < x21)) = false → D0 () w))

abbrev L_impl_Colouring_alike_2_e0 : List Slot := [.junk, .junk, .junk, .junk, .junk, .junk, .junk, .junk, .junk, .junk, .junk, .junk, .junk, .junk, .junk, .junk, .junk, .junk, .junk, .junk, .junk, .junk, .junk, .junk, .junk, .junk, .junk, .junk, .junk, .junk, .junk, .junk, .junk, .junk, .junk, .junk, .junk, .junk, .junk, .junk, .junk, .junk]

abbrev L_impl_Colouring_alike_2_sp : List Slot := [.k .any, .k .any, .junk, .junk, .junk, .junk, .junk, .junk, .junk, .junk, .junk, .junk, .junk, .junk, .junk, .junk, .junk, .junk, .junk, .junk, .k .any, .k (.int .i64), .k (.int .i64), .junk, .junk, .junk, .junk, .junk, .junk, .junk, .junk, .junk, .junk, .junk, .junk, .junk, .junk, .junk, .junk, .junk, .junk, .junk]
abbrev L_impl_Colouring_alike_2_ex : List (Nat × List Slot) := [(0, L_impl_Colouring_alike_2_e0)]
abbrev L_impl_Colouring_alike_2_rt : List Slot := [.junk, .junk, .junk, .junk, .junk, .junk, .k .any, .k .any, .k .bool, .junk, .junk, .junk, .junk, .junk, .junk, .junk, .junk, .junk, .junk, .junk, .junk, .junk, .junk, .junk, .junk, .junk, .junk, .junk, .junk, .junk, .junk, .junk, .junk, .junk, .junk, .junk, .junk, .junk, .junk, .junk, .junk, .junk]

def L_impl_Colouring_alike_2_b (Φ : Post) (u : (Value × Value × Value × Int)) (N : (Value × Value × Value × Int) → Int → World → Prop) (s : Int) (w : World) : Prop :=
  B_impl_Colouring_alike_2 u.1 u.2.1 u.2.2.1 u.2.2.2 s N (fun v w => ∀ j : Nat → Value, Φ (.exit 0) (mkT j 0 L_impl_Colouring_alike_2_e0 v) w) (fun v w => ∀ j : Nat → Value, Φ .ret (mkT j 0 L_impl_Colouring_alike_2_rt v) w) w

theorem L_impl_Colouring_alike_2_eq (j : Nat → Value) (u : (Value × Value × Value × Int)) (s : Int) (N : (Value × Value × Value × Int) → Int → World → Prop) (D0 : (Unit) → World → Prop) (R : (Value × Value × Bool × Unit) → World → Prop) (w : World) :
    W Try.prog ty (fun _ _ _ _ => False) (loopAt Try.f85 2) (loopPost L_impl_Colouring_alike_2_sp [(0, (⟨L_impl_Colouring_alike_2_e0, D0⟩ : Door))] ⟨L_impl_Colouring_alike_2_rt, R⟩ (fun v w => N ((fun v => (v.1, v.2.1, v.2.2.1, v.2.2.2.1)) v) ((fun v => v.2.2.2.2.1) v) w)) (mkT j 0 L_impl_Colouring_alike_2_sp ((fun u s => (u.1, u.2.1, u.2.2.1, u.2.2.2, s, ())) u s)) w =
    B_impl_Colouring_alike_2 u.1 u.2.1 u.2.2.1 u.2.2.2 s N D0 R w := by
  kernel_rfl

def O_impl_Colouring_alike_1 : Code → Post → List SV → World → Prop :=
  orc 2 (loopAt Try.f85 2) L_impl_Colouring_alike_2_sp (fun Φ fr w => LOOP (U := (Value × Value × Value × Int)) (S := Int) ((fun v => (v.1, v.2.1, v.2.2.1, v.2.2.2.1)) (extT L_impl_Colouring_alike_2_sp fr)) (L_impl_Colouring_alike_2_b Φ ((fun v => (v.1, v.2.1, v.2.2.1, v.2.2.2.1)) (extT L_impl_Colouring_alike_2_sp fr))) ((fun v => v.2.2.2.2.1) (extT L_impl_Colouring_alike_2_sp fr)) w) (fun _ _ _ _ => False)

theorem O_impl_Colouring_alike_1_ok : Sound Try.prog O_impl_Colouring_alike_1 :=
  orc_ok (sound_none _) fun Φ fr w hs h => loop_ok (ty := ty) follows (sound_none _) L_impl_Colouring_alike_2_sp (fun v => (v.1, v.2.1, v.2.2.1, v.2.2.2.1)) (fun v => v.2.2.2.2.1) (fun u s => (u.1, u.2.1, u.2.2.1, u.2.2.2, s, ())) (fun _ => rfl) L_impl_Colouring_alike_2_ex L_impl_Colouring_alike_2_rt (body := L_impl_Colouring_alike_2_b Φ) (fun j u s w N hb => by
    have e := L_impl_Colouring_alike_2_eq j u s N (doorOf Φ (.exit 0) L_impl_Colouring_alike_2_e0).D (doorOf Φ .ret L_impl_Colouring_alike_2_rt).D w
    exact Eq.mpr e hb) hs h

def V_impl_Colouring_alike (x0 : Value) (y1 : Value) (from2 : Int) (w : World) (K : (Value × Value × Bool) → World → Prop) : Prop :=
  (NilOk x0 ∧ (QAll Try.prog (Instr.fieldAt 25 x0 1) .any fun (x16_1 : Value) => (QSub Try.prog (Instr.loadAt 2 x16_1) w (.int .i64) fun (x17_2 : Int) => (Fc Try.prog 112 #[(.int .i64 x17_2), (.slice none 0 0)] w (.one .any) fun (x18_4 : Value) w_3 => (QAll Try.prog (Instr.sliceAt 68 x18_4 (some (.int .i64 from2)) none none) .any fun (x20_5 : Value) => (QAll Try.prog (Builtin.len_ #[68] 3 #[x20_5]) (.int .i64) fun (x21_6 : Int) => (At (loopAt Try.f85 2) (loopAt Try.f85 2) (LOOP (U := (Value × Value × Value × Int)) (S := Int) ((x0 : Value), (y1 : Value), (x20_5 : Value), x21_6) (fun N_30 s_31 w_32 => B_impl_Colouring_alike_2 (x0 : Value) (y1 : Value) (x20_5 : Value) x21_6 s_31 N_30 (fun (v_24 : (Unit)) w_25 => ∀ _j_26 : Nat → Value, K (((.slice none 0 0) : Value), ((.slice none 0 0) : Value), false) w_25) (fun (v_27 : (Value × Value × Bool × Unit)) w_28 => ∀ _j_29 : Nat → Value, K ((v_27.1 : Value), (v_27.2.1 : Value), v_27.2.2.1) w_28) w_32) (0 : Int) w_3))))))))

theorem eq_impl_Colouring_alike (x0 : Value) (y1 : Value) (from2 : Int) (w : World) (K : (Value × Value × Bool) → World → Prop) :
    W Try.prog ty O_impl_Colouring_alike_1 (bodyOf Try.f85) (fnPost Try.prog Try.f85.results.toList (.three .any .any .bool) K) (frame0 [x0, y1, (.int .i64 from2)] 42) w = V_impl_Colouring_alike x0 y1 from2 w K := by
  kernel_rfl

theorem body_impl_Colouring_alike : Try.f85.body = some (bodyOf Try.f85) := by kernel_rfl
theorem name_impl_Colouring_alike : (Try.f85.name == "runtime.NumGoroutine") = false := by kernel_rfl

theorem walk_impl_Colouring_alike (x0 : Value) (y1 : Value) (from2 : Int) {w : World} {K : (Value × Value × Bool) → World → Prop} (h : V_impl_Colouring_alike x0 y1 from2 w K) : Fc Try.prog 85 #[x0, y1, (.int .i64 from2)] w (.three .any .any .bool) K :=
  fn_ok follows O_impl_Colouring_alike_1_ok Try.func85 name_impl_Colouring_alike body_impl_Colouring_alike Try.ntmps85 [x0, y1, (.int .i64 from2)] (Eq.mpr (eq_impl_Colouring_alike x0 y1 from2 w K) h)

-- uses S9Alk
theorem c_impl_Colouring_alike {px py : Value} {x y : Col} {w : World} {K : Value × Value × Bool → World → Prop} (hx : x.Ok) (hy : y.Ok) (Ix : x.Is) (Iy : y.Is) (ax : ColAt w px x) (ay : ColAt w py y)
    (hn : alikeO x y = none → ∀ w', Below w.heap.size w w' → K (.slice none 0 0, .slice none 0 0, false) w')
    (hs : ∀ t, alikeO x y = some t → ∀ w' u v M, Below w.heap.size w w' → w.heap.size ≤ M → M ≤ w'.heap.size → MyI w.heap.size M w' u t.1 → MyI M w'.heap.size w' v t.2 → K (u, v, true) w') :
    Fc Try.prog F_impl_Colouring_alike #[px, py, .int .i64 0] w (.three .any .any .bool) K := by
  have k4 := Ix.2.2.2.1; have k0 := Ix.2.2.1; have n1 := Ix.2.1
  unfold alikeO at hn hs
  refine walk_impl_Colouring_alike _ _ _ ⟨ax.nonnil, col_k ax ?_⟩
  have ho := fun K' => c_impl_orders (n := x.k.toNat) (by omega) (by omega) x.k.toNat [] (.slice none 0 0) w.heap.size w K' (by simp) (Nat.le_refl _) (myI_nil _ _ _)
  rw [show ((x.k.toNat : Nat) : Int) = x.k from by omega] at ho
  refine ho _ fun o w1 b hb q1 hu => ?_
  obtain ⟨L, hL⟩ : ∃ L, ordF x.k.toNat x.k.toNat [] = L := ⟨_, rfl⟩
  have hLm : ∀ r ∈ L, PermL r x.k := fun r hr => by
    have := ordF_perm (n := x.k.toNat) (r := r) (by rw [hL]; exact hr)
    rwa [show ((x.k.toNat : Nat) : Int) = x.k from by omega] at this
  have hLl := ordF_len x.k.toNat x.k.toNat []
  have hpow : x.k.toNat ^ x.k.toNat ≤ 4 ^ 4 := Nat.le_trans (Nat.pow_le_pow_left (by omega) _) (Nat.pow_le_pow_right (by omega) (by omega))
  rw [hL] at hn hs hu hLl
  have hov : ∃ n c, o = .slice (some ⟨b, 0, none⟩) n c ∧ n ≤ c := by
    obtain ⟨vs, hown, _⟩ := hu.ex
    obtain ⟨c, l, hv, _, hc, _⟩ := hown.ex
    exact ⟨_, c, hv, hc⟩
  obtain ⟨n, c, rfl, hnc⟩ := hov
  refine ⟨_, fun w' => sl0_run b n c hnc w', hu.len_eq ?_⟩
  have hs1 := q1.size
  refine lp (fun s w' => ∃ i : Nat, s = i ∧ i ≤ L.length ∧ Below w1.heap.size w1 w' ∧ alikeR x y L i = alikeR x y L 0) (fun s _ => (L.length - s).toNat) ⟨0, rfl, by omega, Below.refl _ _, rfl⟩ ?_
  rintro t w2 N ⟨i, hi, hiL, q2, hR⟩ hN
  subst hi
  unfold B_impl_Colouring_alike_2
  refine ⟨fun hlt => ?_, fun hge => ?_⟩
  · have hlt := dec_t hlt
    have hu2 := hu.keep q2
    refine atSS hu2 (by omega) hlt fun r cr hcr hr => ?_
    rw [Int.toNat_natCast] at hr
    have hmem : L.getD i [] ∈ L := by
      have : i < L.length := by omega
      have e : L.getD i [] = L[i] := by simp [List.getD, this]
      rw [e]; exact List.getElem_mem this
    have hperm := hLm _ hmem
    have hpl := hperm.len
    have q02 : Below w.heap.size w w2 := q1.trans (q2.mono hs1)
    have hskip := alikeR_skip (x := x) (y := y) (L := L) (i := i) (by omega)
    have hgo := fun p => alikeR_go (x := x) (y := y) (L := L) (i := i) (p := p) (by omega)
    generalize L.getD i [] = q at *
    refine alloc1 y1SI fun bq w3 m3 => st y1SI m3.at_ (by simp) (own_one_I hr) fun w4 m4 s4 h4 => ?_
    have h4 : Blk w4 bq [r] tSI := h4
    have e3 := m3.here; have s3 := m3.size; have hs2 := q02.size
    have b24 : Below w2.heap.size w2 w4 := m3.below.trans (m4.below (by omega) (by simp; omega))
    have q4 := q02.trans (b24.mono hs2)
    have cq : Cell w4 (ptr bq 0) r := row_all (cs := [_]) h4
    have hr4 := hr.keep b24
    refine ⟨ax.nonnil, col_k (ax.keep q4) ?_⟩
    have hqb := qF_bd hperm
    refine c_impl_Colouring_recoloured (qF q) hx Ix (ax.keep q4) ⟨by omega, by omega⟩ (fun e e0 e1 => by have := hqb e e0 e1; omega) rfl (fun e e0 e1 w' K' hb' hk' => cv rfl (c_impl_Colouring_alike_1 (cq.keep hb') (own_slI (hr4.keep hb') (by omega)) e0 (by omega) (hk' _ (Below.refl _ _)))) fun w5 q5 => ?_
    have hok := recq_ok Ix hx hperm
    have his := recF_is Ix hx hqb
    have q05 := q4.trans (q5.mono q4.size)
    refine col_var hok fun bo w6 hbo hbo2 q6 ao => ?_
    have q06 := q05.trans (q6.mono q05.size)
    have b26 : Below w2.heap.size w2 w6 := (b24.trans (q5.mono b24.size)).trans (q6.mono (by have := b24.size; have := q5.size; omega))
    have hz := q06.size
    refine c_impl_Colouring_renumbering hok hy his Iy ao (ay.keep q06) fun pv w7 q7 hpv => ?_
    have b27 := b26.trans (q7.mono b26.size)
    have q07 := q06.trans (q7.mono hz)
    cases hiso : isoOf (recF x x.k (qF q)) y with
    | none =>
      refine ⟨fun h => absurd h (by simp), fun _ => ?_⟩
      rw [wrap_small (by omega) (by omega)]
      exact hN _ _ ⟨i + 1, by omega, by omega, q2.trans (b27.mono q2.size), by rw [← hR]; exact (hskip hiso).symm⟩ (by omega)
    | some p =>
      rw [hiso] at hpv
      refine ⟨fun _ => ?_, fun h => absurd h (by simp)⟩
      have h7 : Blk w7 bq [r] tSI := by
        have q47 : Below w4.heap.size w4 w7 := (q5.trans (q6.mono q5.size)).trans (q7.mono (by have := q5.size; have := q6.size; omega))
        exact below_at q47 h4 (at_lt h4)
      refine ld (k := .any) y1SI (row_all (cs := [_]) h7) ?_
      intro _
      have hlr := hr.lt
      have hz6 := b26.size
      exact hs (q, p) (by rw [← hR]; exact hgo p hiso) w7 r pv w6.heap.size q07 hz q7.size (own_my (hr.keep b27) (by show q.length ≤ _; omega) hcr (by omega)) hpv
  · have hge := dec_f hge
    have : i = L.length := by omega
    subst this
    intro _
    exact hn (by rw [← hR, alikeR_end]) w2 (q1.trans (q2.mono hs1))

end Go.Proofs.Ytkadckhealbdaaa

/- The reading of impl_Colouring_edges, and its contract. No condition. -/
namespace Go.Proofs.Ytkadckhealbdaaa
open Go Go.RowKit Eng Mem
set_option linter.unusedVariables false
set_option maxRecDepth 100000
def V_impl_Colouring_edges (x0 : Value) (w : World) (K : Int → World → Prop) : Prop :=
  (∀ w_1, Drew w w_1 → (NilOk x0 ∧ (QAll Try.prog (Instr.fieldAt 25 x0 0) .any fun (x5_2 : Value) => (QSub Try.prog (Instr.loadAt 2 x5_2) w_1 (.int .i64) fun (x6_3 : Int) => (NilOk x0 ∧ (QAll Try.prog (Instr.fieldAt 25 x0 0) .any fun (x9_4 : Value) => (QSub Try.prog (Instr.loadAt 2 x9_4) w_1 (.int .i64) fun (x10_5 : Int) => ((2 : Int) ≠ 0 ∧ K (IntKind.i64.wrap (Int.tdiv (IntKind.i64.wrap (x6_3 * (IntKind.i64.wrap (x10_5 - (1 : Int))))) (2 : Int))) w_1))))))))

theorem eq_impl_Colouring_edges (x0 : Value) (w : World) (K : Int → World → Prop) :
    W Try.prog ty (fun _ _ _ _ => False) (bodyOf Try.f98) (fnPost Try.prog Try.f98.results.toList (.one (.int .i64)) K) (frame0 [x0] 14) w = V_impl_Colouring_edges x0 w K := by
  kernel_rfl

theorem body_impl_Colouring_edges : Try.f98.body = some (bodyOf Try.f98) := by kernel_rfl
theorem name_impl_Colouring_edges : (Try.f98.name == "runtime.NumGoroutine") = false := by kernel_rfl

theorem walk_impl_Colouring_edges (x0 : Value) {w : World} {K : Int → World → Prop} (h : V_impl_Colouring_edges x0 w K) : Fc Try.prog 98 #[x0] w (.one (.int .i64)) K :=
  fn_ok follows (sound_none _) Try.func98 name_impl_Colouring_edges body_impl_Colouring_edges Try.ntmps98 [x0] (Eq.mpr (eq_impl_Colouring_edges x0 w K) h)

-- uses S1Col
theorem c_impl_Colouring_edges {p : Value} {c : Col} {w : World} {K : Int → World → Prop} (h0 : 0 ≤ c.n) (h1 : c.n ≤ 17) (hx : ColAt w p c) (hK : ∀ w', Below w.heap.size w w' → K (edgesOf c.n) w') :
    Fc Try.prog F_impl_Colouring_edges #[p] w (.one (.int .i64)) K := by
  refine walk_impl_Colouring_edges p ?_
  intro w1 hd
  have hx1 := hx.keep (hd.below _)
  refine ⟨hx1.nonnil, col_n hx1 ⟨hx1.nonnil, col_n hx1 ⟨by decide, ?_⟩⟩⟩
  rw [wedges h0 h1]
  exact hK w1 (hd.below _)

end Go.Proofs.Ytkadckhealbdaaa

/- The reading of impl_in, and its contract. No condition. -/
namespace Go.Proofs.Ytkadckhealbdaaa
open Go Go.RowKit Eng Mem
set_option linter.unusedVariables false
set_option maxRecDepth 100000
def V_impl_in (n0 : Int) (low1 : Int) (high2 : Int) (w : World) (K : Bool → World → Prop) : Prop :=
  (((decide (n0 ≥ low1)) = true → K (decide (n0 ≤ high2)) w) ∧ ((decide (n0 ≥ low1)) = false → K false w))

theorem eq_impl_in (n0 : Int) (low1 : Int) (high2 : Int) (w : World) (K : Bool → World → Prop) :
    W Try.prog ty (fun _ _ _ _ => False) (bodyOf Try.f54) (fnPost Try.prog Try.f54.results.toList (.one .bool) K) (frame0 [(.int .i64 n0), (.int .i64 low1), (.int .i64 high2)] 15) w = V_impl_in n0 low1 high2 w K := by
  kernel_rfl

theorem body_impl_in : Try.f54.body = some (bodyOf Try.f54) := by kernel_rfl
theorem name_impl_in : (Try.f54.name == "runtime.NumGoroutine") = false := by kernel_rfl

theorem walk_impl_in (n0 : Int) (low1 : Int) (high2 : Int) {w : World} {K : Bool → World → Prop} (h : V_impl_in n0 low1 high2 w K) : Fc Try.prog 54 #[(.int .i64 n0), (.int .i64 low1), (.int .i64 high2)] w (.one .bool) K :=
  fn_ok follows (sound_none _) Try.func54 name_impl_in body_impl_in Try.ntmps54 [(.int .i64 n0), (.int .i64 low1), (.int .i64 high2)] (Eq.mpr (eq_impl_in n0 low1 high2 w K) h)

theorem c_impl_in (n lo hi : Int) {w : World} {K : Bool → World → Prop} (hK : K (decide (lo ≤ n ∧ n ≤ hi)) w) : Fc Try.prog F_impl_in #[.int .i64 n, .int .i64 lo, .int .i64 hi] w (.one .bool) K := by
  refine walk_impl_in n lo hi ⟨fun h => ?_, fun h => ?_⟩
  · have h := of_decide_eq_true h
    simpa [h] using hK
  · have h := of_decide_eq_false h
    have : ¬ lo ≤ n := h
    simpa [this] using hK

end Go.Proofs.Ytkadckhealbdaaa

/- The reading of impl_Colouring_isColouring, and its contract. No condition. -/
namespace Go.Proofs.Ytkadckhealbdaaa
open Go Go.RowKit Eng Mem
set_option linter.unusedVariables false
set_option maxRecDepth 100000
def B_impl_Colouring_isColouring_4 (x0 : Value) (x22 : Value) (x23 : Int) (N : (Value × Value) → Int → World → Prop) (D0 : (Unit) → World → Prop) (R : (Bool × Unit) → World → Prop) (w : World) : Prop :=
  (((decide (x23 < (136 : Int))) = true → (QAll Try.prog (Instr.index 22 x22 (.int .i64 x23)) (.int .u8) fun (x26_11 : Int) => (QAll Try.prog (convert 5 2 (.int .u8 x26_11)) (.int .i64) fun (x28_12 : Int) => (NilOk x0 ∧ (QAll Try.prog (Instr.fieldAt 25 x0 1) .any fun (x31_13 : Value) => (QSub Try.prog (Instr.loadAt 2 x31_13) w (.int .i64) fun (x32_14 : Int) => (((decide (x28_12 ≥ x32_14)) = true → R (false, ()) w) ∧ ((decide (x28_12 ≥ x32_14)) = false → (Fc Try.prog 98 #[x0] w (.one (.int .i64)) fun (x37_16 : Int) w_15 => (((decide (x23 ≥ x37_16)) = true → (((x26_11 != (0 : Int)) = true → R (false, ()) w_15) ∧ ((x26_11 != (0 : Int)) = false → N ((x0 : Value), (x22 : Value)) (IntKind.i64.wrap (x23 + (1 : Int))) w_15))) ∧ ((decide (x23 ≥ x37_16)) = false → N ((x0 : Value), (x22 : Value)) (IntKind.i64.wrap (x23 + (1 : Int))) w_15))))))))))) ∧ ((decide (x23 < (136 : Int))) = false → D0 () w))

abbrev L_impl_Colouring_isColouring_4_e0 : List Slot := [.junk, .junk, .junk, .junk, .junk, .junk, .junk, .junk, .junk, .junk, .junk, .junk, .junk, .junk, .junk, .junk, .junk, .junk, .junk, .junk, .junk, .junk, .junk, .junk, .junk, .junk, .junk, .junk, .junk, .junk, .junk, .junk, .junk, .junk, .junk, .junk, .junk, .junk, .junk, .junk, .junk, .junk, .junk, .junk, .junk]

abbrev L_impl_Colouring_isColouring_4_sp : List Slot := [.k .any, .junk, .junk, .junk, .junk, .junk, .junk, .junk, .junk, .junk, .junk, .junk, .junk, .junk, .junk, .junk, .junk, .junk, .junk, .junk, .junk, .junk, .k .any, .k (.int .i64), .junk, .junk, .junk, .junk, .junk, .junk, .junk, .junk, .junk, .junk, .junk, .junk, .junk, .junk, .junk, .junk, .junk, .junk, .junk, .junk, .junk]
abbrev L_impl_Colouring_isColouring_4_ex : List (Nat × List Slot) := [(0, L_impl_Colouring_isColouring_4_e0)]
abbrev L_impl_Colouring_isColouring_4_rt : List Slot := [.junk, .junk, .k .bool, .junk, .junk, .junk, .junk, .junk, .junk, .junk, .junk, .junk, .junk, .junk, .junk, .junk, .junk, .junk, .junk, .junk, .junk, .junk, .junk, .junk, .junk, .junk, .junk, .junk, .junk, .junk, .junk, .junk, .junk, .junk, .junk, .junk, .junk, .junk, .junk, .junk, .junk, .junk, .junk, .junk, .junk]

def L_impl_Colouring_isColouring_4_b (Φ : Post) (u : (Value × Value)) (N : (Value × Value) → Int → World → Prop) (s : Int) (w : World) : Prop :=
  B_impl_Colouring_isColouring_4 u.1 u.2 s N (fun v w => ∀ j : Nat → Value, Φ (.exit 0) (mkT j 0 L_impl_Colouring_isColouring_4_e0 v) w) (fun v w => ∀ j : Nat → Value, Φ .ret (mkT j 0 L_impl_Colouring_isColouring_4_rt v) w) w

theorem L_impl_Colouring_isColouring_4_eq (j : Nat → Value) (u : (Value × Value)) (s : Int) (N : (Value × Value) → Int → World → Prop) (D0 : (Unit) → World → Prop) (R : (Bool × Unit) → World → Prop) (w : World) :
    W Try.prog ty (fun _ _ _ _ => False) (loopAt Try.f67 4) (loopPost L_impl_Colouring_isColouring_4_sp [(0, (⟨L_impl_Colouring_isColouring_4_e0, D0⟩ : Door))] ⟨L_impl_Colouring_isColouring_4_rt, R⟩ (fun v w => N ((fun v => (v.1, v.2.1)) v) ((fun v => v.2.2.1) v) w)) (mkT j 0 L_impl_Colouring_isColouring_4_sp ((fun u s => (u.1, u.2, s, ())) u s)) w =
    B_impl_Colouring_isColouring_4 u.1 u.2 s N D0 R w := by
  kernel_rfl

def O_impl_Colouring_isColouring_1 : Code → Post → List SV → World → Prop :=
  orc 4 (loopAt Try.f67 4) L_impl_Colouring_isColouring_4_sp (fun Φ fr w => LOOP (U := (Value × Value)) (S := Int) ((fun v => (v.1, v.2.1)) (extT L_impl_Colouring_isColouring_4_sp fr)) (L_impl_Colouring_isColouring_4_b Φ ((fun v => (v.1, v.2.1)) (extT L_impl_Colouring_isColouring_4_sp fr))) ((fun v => v.2.2.1) (extT L_impl_Colouring_isColouring_4_sp fr)) w) (fun _ _ _ _ => False)

theorem O_impl_Colouring_isColouring_1_ok : Sound Try.prog O_impl_Colouring_isColouring_1 :=
  orc_ok (sound_none _) fun Φ fr w hs h => loop_ok (ty := ty) follows (sound_none _) L_impl_Colouring_isColouring_4_sp (fun v => (v.1, v.2.1)) (fun v => v.2.2.1) (fun u s => (u.1, u.2, s, ())) (fun _ => rfl) L_impl_Colouring_isColouring_4_ex L_impl_Colouring_isColouring_4_rt (body := L_impl_Colouring_isColouring_4_b Φ) (fun j u s w N hb => by
    have e := L_impl_Colouring_isColouring_4_eq j u s N (doorOf Φ (.exit 0) L_impl_Colouring_isColouring_4_e0).D (doorOf Φ .ret L_impl_Colouring_isColouring_4_rt).D w
    exact Eq.mpr e hb) hs h

def V_impl_Colouring_isColouring (x0 : Value) (w : World) (K : Bool → World → Prop) : Prop :=
  (NilOk x0 ∧ (QAll Try.prog (Instr.fieldAt 25 x0 0) .any fun (x7_1 : Value) => (QSub Try.prog (Instr.loadAt 2 x7_1) w (.int .i64) fun (x8_2 : Int) => (Fc Try.prog 54 #[(.int .i64 x8_2), (.int .i64 (1 : Int)), (.int .i64 (17 : Int))] w (.one .bool) fun (x9_4 : Bool) w_3 => (((!x9_4) = true → K false w_3) ∧ ((!x9_4) = false → (NilOk x0 ∧ (QAll Try.prog (Instr.fieldAt 25 x0 1) .any fun (x14_5 : Value) => (QSub Try.prog (Instr.loadAt 2 x14_5) w_3 (.int .i64) fun (x15_6 : Int) => (Fc Try.prog 54 #[(.int .i64 x15_6), (.int .i64 (1 : Int)), (.int .i64 (4 : Int))] w_3 (.one .bool) fun (x16_8 : Bool) w_7 => (((!x16_8) = true → K false w_7) ∧ ((!x16_8) = false → (NilOk x0 ∧ (QAll Try.prog (Instr.fieldAt 25 x0 2) .any fun (x21_9 : Value) => (QSub Try.prog (Instr.loadAt 22 x21_9) w_7 .any fun (x22_10 : Value) => (At (loopAt Try.f67 4) (loopAt Try.f67 4) (LOOP (U := (Value × Value)) (S := Int) ((x0 : Value), (x22_10 : Value)) (fun N_23 s_24 w_25 => B_impl_Colouring_isColouring_4 (x0 : Value) (x22_10 : Value) s_24 N_23 (fun (v_17 : (Unit)) w_18 => ∀ _j_19 : Nat → Value, K true w_18) (fun (v_20 : (Bool × Unit)) w_21 => ∀ _j_22 : Nat → Value, K v_20.1 w_21) w_25) (0 : Int) w_7)))))))))))))))))

theorem eq_impl_Colouring_isColouring (x0 : Value) (w : World) (K : Bool → World → Prop) :
    W Try.prog ty O_impl_Colouring_isColouring_1 (bodyOf Try.f67) (fnPost Try.prog Try.f67.results.toList (.one .bool) K) (frame0 [x0] 45) w = V_impl_Colouring_isColouring x0 w K := by
  kernel_rfl

theorem body_impl_Colouring_isColouring : Try.f67.body = some (bodyOf Try.f67) := by kernel_rfl
theorem name_impl_Colouring_isColouring : (Try.f67.name == "runtime.NumGoroutine") = false := by kernel_rfl

theorem walk_impl_Colouring_isColouring (x0 : Value) {w : World} {K : Bool → World → Prop} (h : V_impl_Colouring_isColouring x0 w K) : Fc Try.prog 67 #[x0] w (.one .bool) K :=
  fn_ok follows O_impl_Colouring_isColouring_1_ok Try.func67 name_impl_Colouring_isColouring body_impl_Colouring_isColouring Try.ntmps67 [x0] (Eq.mpr (eq_impl_Colouring_isColouring x0 w K) h)

-- uses S1Col
theorem c_impl_Colouring_isColouring {p : Value} {c : Col} {w : World} {K : Bool → World → Prop} (h : c.Ok) (hx : ColAt w p c) (hK : ∀ w', Below w.heap.size w w' → K (decide c.Is) w') :
    Fc Try.prog F_impl_Colouring_isColouring #[p] w (.one .bool) K := by
  have no : ∀ w', Below w.heap.size w w' → ¬ c.Is → K false w' := fun w' hb hn => by rw [← Col.is_false hn]; exact hK w' hb
  refine walk_impl_Colouring_isColouring p ?_
  refine ⟨hx.nonnil, col_n hx (c_impl_in _ _ _ ⟨fun h1 => ?_, fun h1 => ?_⟩)⟩
  · exact no w (Below.refl _ _) fun hi => by simp [hi.1, hi.2.1] at h1
  have h1 : 1 ≤ c.n ∧ c.n ≤ 17 := by simpa using h1
  refine ⟨hx.nonnil, col_k hx (c_impl_in _ _ _ ⟨fun h2 => ?_, fun h2 => ?_⟩)⟩
  · exact no w (Below.refl _ _) fun hi => by simp [hi.2.2.1, hi.2.2.2.1] at h2
  have h2 : 1 ≤ c.k ∧ c.k ≤ 4 := by simpa using h2
  refine ⟨hx.nonnil, fld f2 hx.nonnil hx.isPtr (ldA yA h.es_len (Col.es_row hx) ?_)⟩
  refine ⟨rfl, ⟨⟨fun i w' => 0 ≤ i ∧ i ≤ 136 ∧ Below w.heap.size w w' ∧ ∀ j : Nat, (j : Int) < i → c.at_ j, fun i _ => (136 - i).toNat, ⟨by omega, by omega, Below.refl _ _, fun j hj => by omega⟩, ?_⟩⟩⟩
  rintro i w' ⟨h0, hi, hb, hall⟩
  have hx' := hx.keep hb
  unfold B_impl_Colouring_isColouring_4
  refine ⟨fun hlt => ?_, fun hge => ?_⟩
  · have hlt := of_decide_eq_true hlt
    have hbd := h.e_bd i.toNat
    have hit : ((i.toNat : Nat) : Int) = i := by omega
    have next : ∀ w'', Below w.heap.size w w'' → c.at_ i.toNat → (i + 1 = i + 1 ∧ (0 ≤ i + 1 ∧ i + 1 ≤ 136 ∧ Below w.heap.size w w'' ∧ ∀ j : Nat, (j : Int) < i + 1 → c.at_ j) ∧ (136 - (i + 1)).toNat < (136 - i).toNat) := fun w'' hb'' ha =>
      ⟨rfl, ⟨by omega, by omega, hb'', fun j hj => by
        by_cases hji : (j : Int) < i
        · exact hall j hji
        · have : j = i.toNat := by omega
          subst this; exact ha⟩, by omega⟩
    have fail : ∀ w'', Below w.heap.size w w'' → ¬ c.at_ i.toNat → K false w'' := fun w'' hb'' hn => no w'' hb'' fun hI => hn (hI.2.2.2.2 i.toNat (by omega))
    refine ixV Try.underlyingTA yB h0 hlt (Col.e_get h (by omega)) ?_
    refine u8_int hbd.1 hbd.2 ⟨hx'.nonnil, col_k hx' ⟨fun hc => ?_, fun hc => ?_⟩⟩
    · have hc := of_decide_eq_true hc
      refine fun _ => fail w' hb fun ha => ?_
      unfold Col.at_ at ha
      split at ha <;> omega
    have hc := of_decide_eq_false hc
    refine c_impl_Colouring_edges (by omega) h1.2 hx' fun w'' hb'' => ?_
    have hbb := hb.trans (hb''.mono hb.size)
    refine ⟨fun he => ⟨fun hz => ?_, fun hz => ?_⟩, fun he => ?_⟩
    · have he := of_decide_eq_true he
      refine fun _ => fail w'' hbb fun ha => ?_
      unfold Col.at_ at ha
      rw [if_neg (by omega)] at ha
      simp [ha] at hz
    · have he := of_decide_eq_true he
      rw [wrap_small (by omega) (by omega)]
      have := next w'' hbb (by unfold Col.at_; rw [if_neg (by omega)]; simpa using hz)
      exact ⟨rfl, this.2⟩
    · have he := of_decide_eq_false he
      rw [wrap_small (by omega) (by omega)]
      have := next w'' hbb (by unfold Col.at_; rw [if_pos (by omega)]; omega)
      exact ⟨rfl, this.2⟩
  · have hge := of_decide_eq_false hge
    intro _
    have : c.Is := ⟨h1.1, h1.2, h2.1, h2.2, fun j hj => hall j (by omega)⟩
    rw [← Col.is_true this]
    exact hK w' hb

end Go.Proofs.Ytkadckhealbdaaa

/- The reading of impl_FindAlike, and its contract. No condition. -/
namespace Go.Proofs.Ytkadckhealbdaaa
open Go Go.RowKit Eng Mem
set_option linter.unusedVariables false
set_option maxRecDepth 100000
def V_impl_FindAlike (x0 : Value) (y1 : Value) (w : World) (K : (Value × Value × Int) → World → Prop) : Prop :=
  (Pr Try.prog (Instr.box 25 x0) w (.one .any) fun (x2_2 : Value) w_1 => (Pr Try.prog (Instr.box 25 y1) w_1 (.one .any) fun (y3_4 : Value) w_3 => (Fc Try.prog 67 #[x2_2] w_3 (.one .bool) fun (x10_6 : Bool) w_5 => (((!x10_6) = true → K (((.slice none 0 0) : Value), ((.slice none 0 0) : Value), (1 : Int)) w_5) ∧ ((!x10_6) = false → (Fc Try.prog 67 #[y3_4] w_5 (.one .bool) fun (x13_8 : Bool) w_7 => (((!x13_8) = true → K (((.slice none 0 0) : Value), ((.slice none 0 0) : Value), (1 : Int)) w_7) ∧ ((!x13_8) = false → (Fc Try.prog 85 #[x2_2, y3_4, (.int .i64 (0 : Int))] w_7 (.three .any .any .bool) fun (x17_10 : Value × Value × Bool) w_9 => (((!x17_10.2.2) = true → K (((.slice none 0 0) : Value), ((.slice none 0 0) : Value), (4 : Int)) w_9) ∧ ((!x17_10.2.2) = false → K ((x17_10.1 : Value), (x17_10.2.1 : Value), (0 : Int)) w_9)))))))))))

theorem eq_impl_FindAlike (x0 : Value) (y1 : Value) (w : World) (K : (Value × Value × Int) → World → Prop) :
    W Try.prog ty (fun _ _ _ _ => False) (bodyOf Try.f41) (fnPost Try.prog Try.f41.results.toList (.three .any .any (.int .i64)) K) (frame0 [x0, y1] 25) w = V_impl_FindAlike x0 y1 w K := by
  kernel_rfl

theorem body_impl_FindAlike : Try.f41.body = some (bodyOf Try.f41) := by kernel_rfl
theorem name_impl_FindAlike : (Try.f41.name == "runtime.NumGoroutine") = false := by kernel_rfl

theorem walk_impl_FindAlike (x0 : Value) (y1 : Value) {w : World} {K : (Value × Value × Int) → World → Prop} (h : V_impl_FindAlike x0 y1 w K) : Fc Try.prog 41 #[x0, y1] w (.three .any .any (.int .i64)) K :=
  fn_ok follows (sound_none _) Try.func41 name_impl_FindAlike body_impl_FindAlike Try.ntmps41 [x0, y1] (Eq.mpr (eq_impl_FindAlike x0 y1 w K) h)

-- uses S9Alk
theorem c_impl_FindAlike {x y : Col} {w : World} {K : Value × Value × Int → World → Prop} (hx : x.Ok) (hy : y.Ok)
    (hK : ∀ w' u v M, Below w.heap.size w w' → w.heap.size ≤ M → M ≤ w'.heap.size → MyI w.heap.size M w' u (alikeF x y).1 → MyI M w'.heap.size w' v (alikeF x y).2.1 → K (u, v, (alikeF x y).2.2) w') : Fc Try.prog F_impl_FindAlike #[x.val, y.val] w (.three .any .any (.int .i64)) K := by
  unfold alikeF at hK
  refine walk_impl_FindAlike _ _ (col_box fun b1 w1 m1 ax => col_box fun b2 w2 m2 ay => ?_)
  have q2 := m1.below.trans (m2.below.mono m1.below.size)
  have ax := ax.keep m2.below
  refine c_impl_Colouring_isColouring hx ax fun w3 q3 => ⟨fun h => ?_, fun h => c_impl_Colouring_isColouring hy (ay.keep q3) fun w4 q4 => ⟨fun h2 => ?_, fun h2 => ?_⟩⟩
  · rw [if_neg (fun hh => notd_t h hh.1)] at hK
    have q := q2.trans (q3.mono q2.size)
    exact hK w3 _ _ w.heap.size q (Nat.le_refl _) q.size (myI_nil _ _ _) (myI_nil _ _ _)
  · rw [if_neg (fun hh => notd_t h2 hh.2)] at hK
    have q := (q2.trans (q3.mono q2.size)).trans (q4.mono (by have := q2.size; have := q3.size; omega))
    exact hK w4 _ _ w.heap.size q (Nat.le_refl _) q.size (myI_nil _ _ _) (myI_nil _ _ _)
  have Ix := notd_f h; have Iy := notd_f h2
  rw [if_pos ⟨Ix, Iy⟩] at hK
  have q4' := (q2.trans (q3.mono q2.size)).trans (q4.mono (by have := q2.size; have := q3.size; omega))
  have hs := q4'.size
  refine c_impl_Colouring_alike hx hy Ix Iy ((ax.keep q3).keep q4) ((ay.keep q3).keep q4) (fun hnone w5 q5 => ?_) (fun t hsome w5 u v M q5 hM1 hM2 hu hv => ?_)
  · rw [hnone] at hK
    have q := q4'.trans (q5.mono hs)
    exact ⟨fun _ => hK w5 _ _ w.heap.size q (Nat.le_refl _) q.size (myI_nil _ _ _) (myI_nil _ _ _), fun h => absurd h (by simp)⟩
  · rw [hsome] at hK
    exact ⟨fun h => absurd h (by simp), fun _ => hK w5 u v M (q4'.trans (q5.mono hs)) (by omega) hM2 (hu.mono hs (Nat.le_refl _)) hv⟩

end Go.Proofs.Ytkadckhealbdaaa

/- The reading of laws_eqInt64S, and its contract. No condition. -/
namespace Go.Proofs.Ytkadckhealbdaaa
open Go Go.RowKit Eng Mem
set_option linter.unusedVariables false
set_option maxRecDepth 100000
def B_laws_eqInt64S_4 (a0 : Value) (b1 : Value) (i5 : Int) (N : (Value × Value) → Int → World → Prop) (D0 : (Unit) → World → Prop) (R : (Bool × Unit) → World → Prop) (w : World) : Prop :=
  (QAll Try.prog (Builtin.len_ #[31] 3 #[a0]) (.int .i64) fun (x13_3 : Int) => (((decide (i5 < x13_3)) = true → (∀ w_4, Drew w w_4 → (QAll Try.prog (Instr.indexAt 31 a0 (.int .i64 i5)) .any fun (x19_5 : Value) => (QSub Try.prog (Instr.loadAt 2 x19_5) w_4 (.int .i64) fun (x20_6 : Int) => (QAll Try.prog (Instr.indexAt 31 b1 (.int .i64 i5)) .any fun (x23_7 : Value) => (QSub Try.prog (Instr.loadAt 2 x23_7) w_4 (.int .i64) fun (x24_8 : Int) => (((x20_6 != x24_8) = true → R (false, ()) w_4) ∧ ((x20_6 != x24_8) = false → N ((a0 : Value), (b1 : Value)) (IntKind.i64.wrap (i5 + (1 : Int))) w_4)))))))) ∧ ((decide (i5 < x13_3)) = false → D0 () w)))

abbrev L_laws_eqInt64S_4_e0 : List Slot := [.junk, .junk, .junk, .junk, .junk, .junk, .junk, .junk, .junk, .junk, .junk, .junk, .junk, .junk, .junk, .junk, .junk, .junk, .junk, .junk, .junk, .junk, .junk, .junk, .junk, .junk]

abbrev L_laws_eqInt64S_4_sp : List Slot := [.k .any, .k .any, .junk, .junk, .junk, .k (.int .i64), .junk, .junk, .junk, .junk, .junk, .junk, .junk, .junk, .junk, .junk, .junk, .junk, .junk, .junk, .junk, .junk, .junk, .junk, .junk, .junk]
abbrev L_laws_eqInt64S_4_ex : List (Nat × List Slot) := [(0, L_laws_eqInt64S_4_e0)]
abbrev L_laws_eqInt64S_4_rt : List Slot := [.junk, .junk, .junk, .junk, .k .bool, .junk, .junk, .junk, .junk, .junk, .junk, .junk, .junk, .junk, .junk, .junk, .junk, .junk, .junk, .junk, .junk, .junk, .junk, .junk, .junk, .junk]

def L_laws_eqInt64S_4_b (Φ : Post) (u : (Value × Value)) (N : (Value × Value) → Int → World → Prop) (s : Int) (w : World) : Prop :=
  B_laws_eqInt64S_4 u.1 u.2 s N (fun v w => ∀ j : Nat → Value, Φ (.exit 0) (mkT j 0 L_laws_eqInt64S_4_e0 v) w) (fun v w => ∀ j : Nat → Value, Φ .ret (mkT j 0 L_laws_eqInt64S_4_rt v) w) w

theorem L_laws_eqInt64S_4_eq (j : Nat → Value) (u : (Value × Value)) (s : Int) (N : (Value × Value) → Int → World → Prop) (D0 : (Unit) → World → Prop) (R : (Bool × Unit) → World → Prop) (w : World) :
    W Try.prog ty (fun _ _ _ _ => False) (loopAt Try.f20 4) (loopPost L_laws_eqInt64S_4_sp [(0, (⟨L_laws_eqInt64S_4_e0, D0⟩ : Door))] ⟨L_laws_eqInt64S_4_rt, R⟩ (fun v w => N ((fun v => (v.1, v.2.1)) v) ((fun v => v.2.2.1) v) w)) (mkT j 0 L_laws_eqInt64S_4_sp ((fun u s => (u.1, u.2, s, ())) u s)) w =
    B_laws_eqInt64S_4 u.1 u.2 s N D0 R w := by
  kernel_rfl

def O_laws_eqInt64S_1 : Code → Post → List SV → World → Prop :=
  orc 4 (loopAt Try.f20 4) L_laws_eqInt64S_4_sp (fun Φ fr w => LOOP (U := (Value × Value)) (S := Int) ((fun v => (v.1, v.2.1)) (extT L_laws_eqInt64S_4_sp fr)) (L_laws_eqInt64S_4_b Φ ((fun v => (v.1, v.2.1)) (extT L_laws_eqInt64S_4_sp fr))) ((fun v => v.2.2.1) (extT L_laws_eqInt64S_4_sp fr)) w) (fun _ _ _ _ => False)

theorem O_laws_eqInt64S_1_ok : Sound Try.prog O_laws_eqInt64S_1 :=
  orc_ok (sound_none _) fun Φ fr w hs h => loop_ok (ty := ty) follows (sound_none _) L_laws_eqInt64S_4_sp (fun v => (v.1, v.2.1)) (fun v => v.2.2.1) (fun u s => (u.1, u.2, s, ())) (fun _ => rfl) L_laws_eqInt64S_4_ex L_laws_eqInt64S_4_rt (body := L_laws_eqInt64S_4_b Φ) (fun j u s w N hb => by
    have e := L_laws_eqInt64S_4_eq j u s N (doorOf Φ (.exit 0) L_laws_eqInt64S_4_e0).D (doorOf Φ .ret L_laws_eqInt64S_4_rt).D w
    exact Eq.mpr e hb) hs h

def V_laws_eqInt64S (a0 : Value) (b1 : Value) (w : World) (K : Bool → World → Prop) : Prop :=
  (QAll Try.prog (Builtin.len_ #[31] 3 #[a0]) (.int .i64) fun (x7_1 : Int) => (QAll Try.prog (Builtin.len_ #[31] 3 #[b1]) (.int .i64) fun (x9_2 : Int) => (((x7_1 != x9_2) = true → K false w) ∧ ((x7_1 != x9_2) = false → (At (loopAt Try.f20 4) (loopAt Try.f20 4) (LOOP (U := (Value × Value)) (S := Int) ((a0 : Value), (b1 : Value)) (fun N_15 s_16 w_17 => B_laws_eqInt64S_4 (a0 : Value) (b1 : Value) s_16 N_15 (fun (v_9 : (Unit)) w_10 => ∀ _j_11 : Nat → Value, K true w_10) (fun (v_12 : (Bool × Unit)) w_13 => ∀ _j_14 : Nat → Value, K v_12.1 w_13) w_17) (0 : Int) w))))))

theorem eq_laws_eqInt64S (a0 : Value) (b1 : Value) (w : World) (K : Bool → World → Prop) :
    W Try.prog ty O_laws_eqInt64S_1 (bodyOf Try.f20) (fnPost Try.prog Try.f20.results.toList (.one .bool) K) (frame0 [a0, b1] 26) w = V_laws_eqInt64S a0 b1 w K := by
  kernel_rfl

theorem body_laws_eqInt64S : Try.f20.body = some (bodyOf Try.f20) := by kernel_rfl
theorem name_laws_eqInt64S : (Try.f20.name == "runtime.NumGoroutine") = false := by kernel_rfl

theorem walk_laws_eqInt64S (a0 : Value) (b1 : Value) {w : World} {K : Bool → World → Prop} (h : V_laws_eqInt64S a0 b1 w K) : Fc Try.prog 20 #[a0, b1] w (.one .bool) K :=
  fn_ok follows O_laws_eqInt64S_1_ok Try.func20 name_laws_eqInt64S body_laws_eqInt64S Try.ntmps20 [a0, b1] (Eq.mpr (eq_laws_eqInt64S a0 b1 w K) h)

-- uses S2Sl
theorem c_laws_eqInt64S {a b : Value} {l m : List Int} {w : World} {K : Bool → World → Prop} (h : SlI w a l) (k : SlI w b m) (hK : ∀ w', Below w.heap.size w w' → K (decide (l = m)) w') :
    Fc Try.prog F_laws_eqInt64S #[a, b] w (.one .bool) K := by
  have hll := h.len; have hml := k.len
  have yes : ∀ w', Below w.heap.size w w' → l = m → K true w' := fun w' hb he => by have := hK w' hb; rwa [decide_eq_true he] at this
  have no : ∀ w', Below w.heap.size w w' → l ≠ m → K false w' := fun w' hb he => by have := hK w' hb; rwa [decide_eq_false he] at this
  refine walk_laws_eqInt64S _ _ ?_
  refine lenI h (lenI k ⟨fun hne => no w (Below.refl _ _) fun he => by simp [he] at hne, fun heq => ?_⟩)
  have heq : l.length = m.length := by have := ne_f heq; omega
  refine lp (fun i w' => 0 ≤ i ∧ i ≤ l.length ∧ Below w.heap.size w w' ∧ ∀ j : Nat, (j : Int) < i → l.getD j 0 = m.getD j 0) (fun i _ => (l.length - i).toNat)
    ⟨by omega, by omega, Below.refl _ _, fun j hj => by omega⟩ ?_
  rintro i w1 N ⟨h0, hi, hb, hall⟩ hN
  unfold B_laws_eqInt64S_4
  refine lenI (h.keep hb) ⟨fun hlt w' hd => ?_, fun hge => ?_⟩
  · have hlt := of_decide_eq_true hlt
    have hb' := hb.trans (hd.below _)
    refine atI (h.keep hb') h0 hlt (atI (k.keep hb') h0 (by omega) ⟨fun hne _ => ?_, fun he => ?_⟩)
    · exact no w' hb' fun hlm => by subst hlm; simp at hne
    · have he : l.getD i.toNat 0 = m.getD i.toNat 0 := by simpa using he
      rw [wrap_small (by omega) (by omega)]
      refine hN _ _ ⟨by omega, by omega, hb', fun j hj => ?_⟩ (by omega)
      by_cases hji : (j : Int) < i
      · exact hall j hji
      · have : j = i.toNat := by omega
        subst this; exact he
  · have hge := of_decide_eq_false hge
    refine fun _ => yes w1 hb (List.ext_getElem heq fun j h1 h2 => ?_)
    have := hall j (by omega)
    simpa [List.getD, h1, h2] using this

end Go.Proofs.Ytkadckhealbdaaa

/- The reading of laws_heldInt64S, and its contract. No condition. -/
namespace Go.Proofs.Ytkadckhealbdaaa
open Go Go.RowKit Eng Mem
set_option linter.unusedVariables false
set_option maxRecDepth 100000
def B_laws_heldInt64S_2 (a0 : Value) (k1 : Int) (i5 : Int) (N : Value → (Int × Int) → World → Prop) (D0 : (Int × Unit) → World → Prop) (R : (Int × Unit) → World → Prop) (w : World) : Prop :=
  (QAll Try.prog (Builtin.len_ #[31] 3 #[a0]) (.int .i64) fun (x8_1 : Int) => (((decide (i5 < x8_1)) = true → (QAll Try.prog (Instr.indexAt 31 a0 (.int .i64 i5)) .any fun (x14_2 : Value) => (QSub Try.prog (Instr.loadAt 2 x14_2) w (.int .i64) fun (x15_3 : Int) => (((x15_3 != k1) = true → R ((-1 : Int), ()) w) ∧ ((x15_3 != k1) = false → N (a0 : Value) ((IntKind.i64.wrap (k1 + (1 : Int))), (IntKind.i64.wrap (i5 + (1 : Int)))) w))))) ∧ ((decide (i5 < x8_1)) = false → D0 (k1, ()) w)))

abbrev L_laws_heldInt64S_2_e0 : List Slot := [.junk, .k (.int .i64), .junk, .junk, .junk, .junk, .junk, .junk, .junk, .junk, .junk, .junk, .junk, .junk, .junk, .junk, .junk, .junk, .junk, .junk, .junk]

abbrev L_laws_heldInt64S_2_sp : List Slot := [.k .any, .k (.int .i64), .junk, .junk, .junk, .k (.int .i64), .junk, .junk, .junk, .junk, .junk, .junk, .junk, .junk, .junk, .junk, .junk, .junk, .junk, .junk, .junk]
abbrev L_laws_heldInt64S_2_ex : List (Nat × List Slot) := [(0, L_laws_heldInt64S_2_e0)]
abbrev L_laws_heldInt64S_2_rt : List Slot := [.junk, .junk, .junk, .junk, .k (.int .i64), .junk, .junk, .junk, .junk, .junk, .junk, .junk, .junk, .junk, .junk, .junk, .junk, .junk, .junk, .junk, .junk]

def L_laws_heldInt64S_2_b (Φ : Post) (u : Value) (N : Value → (Int × Int) → World → Prop) (s : (Int × Int)) (w : World) : Prop :=
  B_laws_heldInt64S_2 u s.1 s.2 N (fun v w => ∀ j : Nat → Value, Φ (.exit 0) (mkT j 0 L_laws_heldInt64S_2_e0 v) w) (fun v w => ∀ j : Nat → Value, Φ .ret (mkT j 0 L_laws_heldInt64S_2_rt v) w) w

theorem L_laws_heldInt64S_2_eq (j : Nat → Value) (u : Value) (s : (Int × Int)) (N : Value → (Int × Int) → World → Prop) (D0 : (Int × Unit) → World → Prop) (R : (Int × Unit) → World → Prop) (w : World) :
    W Try.prog ty (fun _ _ _ _ => False) (loopAt Try.f22 2) (loopPost L_laws_heldInt64S_2_sp [(0, (⟨L_laws_heldInt64S_2_e0, D0⟩ : Door))] ⟨L_laws_heldInt64S_2_rt, R⟩ (fun v w => N ((fun v => v.1) v) ((fun v => (v.2.1, v.2.2.1)) v) w)) (mkT j 0 L_laws_heldInt64S_2_sp ((fun u s => (u, s.1, s.2, ())) u s)) w =
    B_laws_heldInt64S_2 u s.1 s.2 N D0 R w := by
  kernel_rfl

def O_laws_heldInt64S_1 : Code → Post → List SV → World → Prop :=
  orc 2 (loopAt Try.f22 2) L_laws_heldInt64S_2_sp (fun Φ fr w => LOOP (U := Value) (S := (Int × Int)) ((fun v => v.1) (extT L_laws_heldInt64S_2_sp fr)) (L_laws_heldInt64S_2_b Φ ((fun v => v.1) (extT L_laws_heldInt64S_2_sp fr))) ((fun v => (v.2.1, v.2.2.1)) (extT L_laws_heldInt64S_2_sp fr)) w) (fun _ _ _ _ => False)

theorem O_laws_heldInt64S_1_ok : Sound Try.prog O_laws_heldInt64S_1 :=
  orc_ok (sound_none _) fun Φ fr w hs h => loop_ok (ty := ty) follows (sound_none _) L_laws_heldInt64S_2_sp (fun v => v.1) (fun v => (v.2.1, v.2.2.1)) (fun u s => (u, s.1, s.2, ())) (fun _ => rfl) L_laws_heldInt64S_2_ex L_laws_heldInt64S_2_rt (body := L_laws_heldInt64S_2_b Φ) (fun j u s w N hb => by
    have e := L_laws_heldInt64S_2_eq j u s N (doorOf Φ (.exit 0) L_laws_heldInt64S_2_e0).D (doorOf Φ .ret L_laws_heldInt64S_2_rt).D w
    exact Eq.mpr e hb) hs h

def V_laws_heldInt64S (a0 : Value) (k1 : Int) (w : World) (K : Int → World → Prop) : Prop :=
  (At (loopAt Try.f22 2) (loopAt Try.f22 2) (LOOP (U := Value) (S := (Int × Int)) (a0 : Value) (fun N_10 s_11 w_12 => B_laws_heldInt64S_2 (a0 : Value) s_11.1 s_11.2 N_10 (fun (v_4 : (Int × Unit)) w_5 => ∀ _j_6 : Nat → Value, K v_4.1 w_5) (fun (v_7 : (Int × Unit)) w_8 => ∀ _j_9 : Nat → Value, K v_7.1 w_8) w_12) (k1, (0 : Int)) w))

theorem eq_laws_heldInt64S (a0 : Value) (k1 : Int) (w : World) (K : Int → World → Prop) :
    W Try.prog ty O_laws_heldInt64S_1 (bodyOf Try.f22) (fnPost Try.prog Try.f22.results.toList (.one (.int .i64)) K) (frame0 [a0, (.int .i64 k1)] 21) w = V_laws_heldInt64S a0 k1 w K := by
  kernel_rfl

theorem body_laws_heldInt64S : Try.f22.body = some (bodyOf Try.f22) := by kernel_rfl
theorem name_laws_heldInt64S : (Try.f22.name == "runtime.NumGoroutine") = false := by kernel_rfl

theorem walk_laws_heldInt64S (a0 : Value) (k1 : Int) {w : World} {K : Int → World → Prop} (h : V_laws_heldInt64S a0 k1 w K) : Fc Try.prog 22 #[a0, (.int .i64 k1)] w (.one (.int .i64)) K :=
  fn_ok follows O_laws_heldInt64S_1_ok Try.func22 name_laws_heldInt64S body_laws_heldInt64S Try.ntmps22 [a0, (.int .i64 k1)] (Eq.mpr (eq_laws_heldInt64S a0 k1 w K) h)

-- uses S2Sl
theorem c_laws_heldInt64S {a : Value} {k : Int} {n B E : Nat} {w : World} {K : Int → World → Prop} (hm : MyI B E w a (upto k n)) (h0 : 0 ≤ k) (h1 : k ≤ 4398046511104) (hK : ∀ w', Below w.heap.size w w' → K (k + n) w') :
    Fc Try.prog F_laws_heldInt64S #[a, .int .i64 k] w (.one (.int .i64)) K := by
  have hL : (upto k n).length = n := by simp [upto]
  have hn := hm.len
  rw [hL] at hn
  have h := hm.sl
  refine walk_laws_heldInt64S _ _ ?_
  refine lp (fun s w' => 0 ≤ s.2 ∧ s.2 ≤ n ∧ s.1 = k + s.2 ∧ Below w.heap.size w w') (fun s _ => (n - s.2).toNat) ⟨by simp, by simp, by simp, Below.refl _ _⟩ ?_
  rintro ⟨k', i⟩ w' N ⟨i0, i1, hk, hb⟩ hN
  simp only at i0 i1 hk
  subst hk
  unfold B_laws_heldInt64S_2
  have h' := h.keep hb
  refine lenI h' ⟨fun hlt => ?_, fun hge => ?_⟩
  · rw [hL] at hlt
    have hlt := of_decide_eq_true hlt
    refine atI h' i0 (by rw [hL]; exact hlt) ?_
    have hv : (upto k n).getD i.toNat 0 = k + i := by simp [upto, List.getD, show i.toNat < n from by omega]; omega
    rw [hv]
    refine ⟨fun hne => by simp at hne, fun _ => ?_⟩
    simp only
    rw [wrap_small (by omega) (by omega), wrap_small (by omega) (by omega)]
    exact hN _ _ ⟨by simp; omega, by simp; omega, by simp; omega, hb⟩ (by simp; omega)
  · rw [hL] at hge
    have hge := of_decide_eq_false hge
    intro _
    have : i = n := by omega
    subst this
    exact hK w' hb

end Go.Proofs.Ytkadckhealbdaaa

/- The reading of laws_markInt64S, and its contract. No condition. -/
namespace Go.Proofs.Ytkadckhealbdaaa
open Go Go.RowKit Eng Mem
set_option linter.unusedVariables false
set_option maxRecDepth 100000
def B_laws_markInt64S_2 (a0 : Value) (k1 : Int) (i5 : Int) (N : Value → (Int × Int) → World → Prop) (D0 : (Int × Unit) → World → Prop) (w : World) : Prop :=
  (QAll Try.prog (Builtin.len_ #[31] 3 #[a0]) (.int .i64) fun (x8_1 : Int) => (((decide (i5 < x8_1)) = true → (QAll Try.prog (Instr.indexAt 31 a0 (.int .i64 i5)) .any fun (x15_2 : Value) => (PrU Try.prog (Instr.storeAt 2 x15_2 (.int .i64 k1)) w fun w_3 => N (a0 : Value) ((IntKind.i64.wrap (k1 + (1 : Int))), (IntKind.i64.wrap (i5 + (1 : Int)))) w_3))) ∧ ((decide (i5 < x8_1)) = false → D0 (k1, ()) w)))

abbrev L_laws_markInt64S_2_e0 : List Slot := [.junk, .k (.int .i64), .junk, .junk, .junk, .junk, .junk, .junk, .junk, .junk, .junk, .junk, .junk, .junk, .junk, .junk, .junk, .junk, .junk]

abbrev L_laws_markInt64S_2_sp : List Slot := [.k .any, .k (.int .i64), .junk, .junk, .junk, .k (.int .i64), .junk, .junk, .junk, .junk, .junk, .junk, .junk, .junk, .junk, .junk, .junk, .junk, .junk]
abbrev L_laws_markInt64S_2_ex : List (Nat × List Slot) := [(0, L_laws_markInt64S_2_e0)]
abbrev L_laws_markInt64S_2_rt : List Slot := [.junk, .junk, .junk, .junk, .junk, .junk, .junk, .junk, .junk, .junk, .junk, .junk, .junk, .junk, .junk, .junk, .junk, .junk, .junk]

def L_laws_markInt64S_2_b (Φ : Post) (u : Value) (N : Value → (Int × Int) → World → Prop) (s : (Int × Int)) (w : World) : Prop :=
  B_laws_markInt64S_2 u s.1 s.2 N (fun v w => ∀ j : Nat → Value, Φ (.exit 0) (mkT j 0 L_laws_markInt64S_2_e0 v) w) w

theorem L_laws_markInt64S_2_eq (j : Nat → Value) (u : Value) (s : (Int × Int)) (N : Value → (Int × Int) → World → Prop) (D0 : (Int × Unit) → World → Prop) (R : (Unit) → World → Prop) (w : World) :
    W Try.prog ty (fun _ _ _ _ => False) (loopAt Try.f21 2) (loopPost L_laws_markInt64S_2_sp [(0, (⟨L_laws_markInt64S_2_e0, D0⟩ : Door))] ⟨L_laws_markInt64S_2_rt, R⟩ (fun v w => N ((fun v => v.1) v) ((fun v => (v.2.1, v.2.2.1)) v) w)) (mkT j 0 L_laws_markInt64S_2_sp ((fun u s => (u, s.1, s.2, ())) u s)) w =
    B_laws_markInt64S_2 u s.1 s.2 N D0 w := by
  kernel_rfl

def O_laws_markInt64S_1 : Code → Post → List SV → World → Prop :=
  orc 2 (loopAt Try.f21 2) L_laws_markInt64S_2_sp (fun Φ fr w => LOOP (U := Value) (S := (Int × Int)) ((fun v => v.1) (extT L_laws_markInt64S_2_sp fr)) (L_laws_markInt64S_2_b Φ ((fun v => v.1) (extT L_laws_markInt64S_2_sp fr))) ((fun v => (v.2.1, v.2.2.1)) (extT L_laws_markInt64S_2_sp fr)) w) (fun _ _ _ _ => False)

theorem O_laws_markInt64S_1_ok : Sound Try.prog O_laws_markInt64S_1 :=
  orc_ok (sound_none _) fun Φ fr w hs h => loop_ok (ty := ty) follows (sound_none _) L_laws_markInt64S_2_sp (fun v => v.1) (fun v => (v.2.1, v.2.2.1)) (fun u s => (u, s.1, s.2, ())) (fun _ => rfl) L_laws_markInt64S_2_ex L_laws_markInt64S_2_rt (body := L_laws_markInt64S_2_b Φ) (fun j u s w N hb => by
    have e := L_laws_markInt64S_2_eq j u s N (doorOf Φ (.exit 0) L_laws_markInt64S_2_e0).D (doorOf Φ .ret L_laws_markInt64S_2_rt).D w
    exact Eq.mpr e hb) hs h

def V_laws_markInt64S (a0 : Value) (k1 : Int) (w : World) (K : Int → World → Prop) : Prop :=
  (At (loopAt Try.f21 2) (loopAt Try.f21 2) (LOOP (U := Value) (S := (Int × Int)) (a0 : Value) (fun N_8 s_9 w_10 => B_laws_markInt64S_2 (a0 : Value) s_9.1 s_9.2 N_8 (fun (v_5 : (Int × Unit)) w_6 => ∀ _j_7 : Nat → Value, K v_5.1 w_6) w_10) (k1, (0 : Int)) w))

theorem eq_laws_markInt64S (a0 : Value) (k1 : Int) (w : World) (K : Int → World → Prop) :
    W Try.prog ty O_laws_markInt64S_1 (bodyOf Try.f21) (fnPost Try.prog Try.f21.results.toList (.one (.int .i64)) K) (frame0 [a0, (.int .i64 k1)] 19) w = V_laws_markInt64S a0 k1 w K := by
  kernel_rfl

theorem body_laws_markInt64S : Try.f21.body = some (bodyOf Try.f21) := by kernel_rfl
theorem name_laws_markInt64S : (Try.f21.name == "runtime.NumGoroutine") = false := by kernel_rfl

theorem walk_laws_markInt64S (a0 : Value) (k1 : Int) {w : World} {K : Int → World → Prop} (h : V_laws_markInt64S a0 k1 w K) : Fc Try.prog 21 #[a0, (.int .i64 k1)] w (.one (.int .i64)) K :=
  fn_ok follows O_laws_markInt64S_1_ok Try.func21 name_laws_markInt64S body_laws_markInt64S Try.ntmps21 [a0, (.int .i64 k1)] (Eq.mpr (eq_laws_markInt64S a0 k1 w K) h)

-- uses S2Sl
theorem c_laws_markInt64S {a : Value} {l : List Int} {k : Int} {B E : Nat} {w : World} {K : Int → World → Prop} (h : MyI B E w a l) (h0 : 0 ≤ k) (h1 : k ≤ 4398046511104)
    (hK : ∀ w', ModR B E w w' → MyI B E w' a (upto k l.length) → K (k + l.length) w') :
    Fc Try.prog F_laws_markInt64S #[a, .int .i64 k] w (.one (.int .i64)) K := by
  refine walk_laws_markInt64S _ _ ?_
  have hl := h.len
  rcases h with ⟨_, ⟨rfl, rfl⟩ | ⟨b, hb, he, ho⟩⟩
  · refine lp (fun s w' => s = (k, 0) ∧ w' = w) (fun _ _ => 0) ⟨rfl, rfl⟩ ?_
    rintro s w' N ⟨rfl, rfl⟩ hN
    unfold B_laws_markInt64S_2
    refine lenI (slI_nil w') ⟨fun h => by simp at h, fun _ _ => ?_⟩
    simpa [upto, myI_nil] using hK w' (ModR.refl _ _ _) (by simp [upto, myI_nil])
  · have hlen : ∀ i : Nat, i ≤ l.length → (upto k i ++ l.drop i).length = l.length := fun i hi => by simp [upto]; omega
    refine lp (fun s w' => 0 ≤ s.2 ∧ s.2 ≤ l.length ∧ s.1 = k + s.2 ∧ Mod [b] w w' ∧ OwnI w' b a (upto k s.2.toNat ++ l.drop s.2.toNat)) (fun s _ => (l.length - s.2).toNat)
      ⟨by simp, by simp, by simp, Mod.refl _ _, by simpa [upto] using ho⟩ ?_
    rintro ⟨k', i⟩ w' N ⟨i0, i1, hk, hm, hO⟩ hN
    simp only at i0 i1 hk hO
    subst hk
    unfold B_laws_markInt64S_2
    have hL := hlen i.toNat (by omega)
    refine lenI (own_slI hO (by omega)) ⟨fun hlt => ?_, fun hge => ?_⟩
    · rw [hL] at hlt
      have hlt := of_decide_eq_true hlt
      refine putI hO i0 (by omega) fun w2 m hs hO2 => ?_
      simp only
      rw [wrap_small (by omega) (by omega), wrap_small (by omega) (by omega)]
      refine hN _ _ ⟨by simp; omega, by simp; omega, by simp; omega, hm.trans m, ?_⟩ (by simp; omega)
      have : (upto k i.toNat ++ l.drop i.toNat).set i.toNat (k + i) = upto k (i + 1).toNat ++ l.drop (i + 1).toNat := by
        have := fill_step (xs := upto k l.length) (zs := l) (i := i.toNat) (by simp [upto]; omega) (by simp [upto])
        have ht : ∀ n, n ≤ l.length → (upto k l.length).take n = upto k n := fun n hn => by
          unfold upto
          rw [← List.map_take, List.take_range, Nat.min_eq_left hn]
        rw [ht _ (by omega), ht _ (by omega)] at this
        rw [show (i + 1).toNat = i.toNat + 1 from by omega, ← this]
        congr 1
        simp [upto, show i.toNat < l.length from by omega]
        omega
      rw [this] at hO2
      exact hO2
    · rw [hL] at hge
      have hge := of_decide_eq_false hge
      intro _
      have : i = l.length := by omega
      subst this
      rw [show ((l.length : Int)).toNat = l.length from by omega, List.drop_length, List.append_nil] at hO
      exact hK w' (hm.r hb he) (own_my hO (by simp [upto]; omega) hb he)

end Go.Proofs.Ytkadckhealbdaaa

/- The reading of laws_toByteA136, and its contract. No condition. -/
namespace Go.Proofs.Ytkadckhealbdaaa
open Go Go.RowKit Eng Mem
set_option linter.unusedVariables false
set_option maxRecDepth 100000
def B_laws_toByteA136_3 (a1 : Value) (x2 : Value) (out3 : Value) (i4 : Int) (N : (Value × Value × Value) → Int → World → Prop) (D0 : (Value × Value × Unit) → World → Prop) (w : World) : Prop :=
  (((decide (i4 < (136 : Int))) = true → (QAll Try.prog (Instr.indexAt 22 a1 (.int .i64 i4)) .any fun (x11_7 : Value) => (QSub Try.prog (Instr.loadAt 5 x11_7) w (.int .u8) fun (x12_8 : Int) => (QAll Try.prog (Instr.indexAt 22 out3 (.int .i64 i4)) .any fun (x13_9 : Value) => (PrU Try.prog (Instr.storeAt 5 x13_9 (.int .u8 x12_8)) w fun w_10 => N ((a1 : Value), (x2 : Value), (out3 : Value)) (IntKind.i64.wrap (i4 + (1 : Int))) w_10))))) ∧ ((decide (i4 < (136 : Int))) = false → D0 ((x2 : Value), (out3 : Value), ()) w))

abbrev L_laws_toByteA136_3_e0 : List Slot := [.junk, .junk, .k .any, .k .any, .junk, .junk, .junk, .junk, .junk, .junk, .junk, .junk, .junk, .junk, .junk]

abbrev L_laws_toByteA136_3_sp : List Slot := [.junk, .k .any, .k .any, .k .any, .k (.int .i64), .junk, .junk, .junk, .junk, .junk, .junk, .junk, .junk, .junk, .junk]
abbrev L_laws_toByteA136_3_ex : List (Nat × List Slot) := [(0, L_laws_toByteA136_3_e0)]
abbrev L_laws_toByteA136_3_rt : List Slot := [.junk, .junk, .junk, .junk, .junk, .junk, .junk, .junk, .junk, .junk, .junk, .junk, .junk, .junk, .junk]

def L_laws_toByteA136_3_b (Φ : Post) (u : (Value × Value × Value)) (N : (Value × Value × Value) → Int → World → Prop) (s : Int) (w : World) : Prop :=
  B_laws_toByteA136_3 u.1 u.2.1 u.2.2 s N (fun v w => ∀ j : Nat → Value, Φ (.exit 0) (mkT j 0 L_laws_toByteA136_3_e0 v) w) w

theorem L_laws_toByteA136_3_eq (j : Nat → Value) (u : (Value × Value × Value)) (s : Int) (N : (Value × Value × Value) → Int → World → Prop) (D0 : (Value × Value × Unit) → World → Prop) (R : (Unit) → World → Prop) (w : World) :
    W Try.prog ty (fun _ _ _ _ => False) (loopAt Try.f45 3) (loopPost L_laws_toByteA136_3_sp [(0, (⟨L_laws_toByteA136_3_e0, D0⟩ : Door))] ⟨L_laws_toByteA136_3_rt, R⟩ (fun v w => N ((fun v => (v.1, v.2.1, v.2.2.1)) v) ((fun v => v.2.2.2.1) v) w)) (mkT j 0 L_laws_toByteA136_3_sp ((fun u s => (u.1, u.2.1, u.2.2, s, ())) u s)) w =
    B_laws_toByteA136_3 u.1 u.2.1 u.2.2 s N D0 w := by
  kernel_rfl

def O_laws_toByteA136_1 : Code → Post → List SV → World → Prop :=
  orc 3 (loopAt Try.f45 3) L_laws_toByteA136_3_sp (fun Φ fr w => LOOP (U := (Value × Value × Value)) (S := Int) ((fun v => (v.1, v.2.1, v.2.2.1)) (extT L_laws_toByteA136_3_sp fr)) (L_laws_toByteA136_3_b Φ ((fun v => (v.1, v.2.1, v.2.2.1)) (extT L_laws_toByteA136_3_sp fr))) ((fun v => v.2.2.2.1) (extT L_laws_toByteA136_3_sp fr)) w) (fun _ _ _ _ => False)

theorem O_laws_toByteA136_1_ok : Sound Try.prog O_laws_toByteA136_1 :=
  orc_ok (sound_none _) fun Φ fr w hs h => loop_ok (ty := ty) follows (sound_none _) L_laws_toByteA136_3_sp (fun v => (v.1, v.2.1, v.2.2.1)) (fun v => v.2.2.2.1) (fun u s => (u.1, u.2.1, u.2.2, s, ())) (fun _ => rfl) L_laws_toByteA136_3_ex L_laws_toByteA136_3_rt (body := L_laws_toByteA136_3_b Φ) (fun j u s w N hb => by
    have e := L_laws_toByteA136_3_eq j u s N (doorOf Φ (.exit 0) L_laws_toByteA136_3_e0).D (doorOf Φ .ret L_laws_toByteA136_3_rt).D w
    exact Eq.mpr e hb) hs h

def V_laws_toByteA136 (a0 : Value) (w : World) (K : Value → World → Prop) : Prop :=
  (Pr Try.prog (Instr.box 22 a0) w (.one .any) fun (a1_2 : Value) w_1 => (Pr Try.prog (Instr.alloc 22 true (.tuple #[])) w_1 (.one .any) fun (x2_4 : Value) w_3 => (Pr Try.prog (Instr.alloc 22 true (.tuple #[])) w_3 (.one .any) fun (out3_6 : Value) w_5 => (At (loopAt Try.f45 3) (loopAt Try.f45 3) (LOOP (U := (Value × Value × Value)) (S := Int) ((a1_2 : Value), (x2_4 : Value), (out3_6 : Value)) (fun N_19 s_20 w_21 => B_laws_toByteA136_3 (a1_2 : Value) (x2_4 : Value) (out3_6 : Value) s_20 N_19 (fun (v_12 : (Value × Value × Unit)) w_13 => ∀ _j_14 : Nat → Value, (QSub Try.prog (Instr.loadAt 22 v_12.2.1) w_13 .any fun (x14_15 : Value) => (PrU Try.prog (Instr.storeAt 22 v_12.1 x14_15) w_13 fun w_16 => (QSub Try.prog (Instr.loadAt 22 v_12.1) w_16 .any fun (r_18 : Value) => K (r_18 : Value) w_16)))) w_21) (0 : Int) w_5)))))

theorem eq_laws_toByteA136 (a0 : Value) (w : World) (K : Value → World → Prop) :
    W Try.prog ty O_laws_toByteA136_1 (bodyOf Try.f45) (fnPost Try.prog Try.f45.results.toList (.one .any) K) (frame0 [a0] 15) w = V_laws_toByteA136 a0 w K := by
  kernel_rfl

theorem body_laws_toByteA136 : Try.f45.body = some (bodyOf Try.f45) := by kernel_rfl
theorem name_laws_toByteA136 : (Try.f45.name == "runtime.NumGoroutine") = false := by kernel_rfl

theorem walk_laws_toByteA136 (a0 : Value) {w : World} {K : Value → World → Prop} (h : V_laws_toByteA136 a0 w K) : Fc Try.prog 45 #[a0] w (.one .any) K :=
  fn_ok follows O_laws_toByteA136_1_ok Try.func45 name_laws_toByteA136 body_laws_toByteA136 Try.ntmps45 [a0] (Eq.mpr (eq_laws_toByteA136 a0 w K) h)

-- uses S1Col
theorem c_laws_toByteA136 {es : List Int} {w : World} {K : Value → World → Prop} (h : es.length = 136) (hK : ∀ w', Below w.heap.size w w' → K (.agg (es.map (Value.int .u8)).toArray) w') :
    Fc Try.prog F_laws_toByteA136 #[.agg (es.map (Value.int .u8)).toArray] w (.one .any) K := by
  have hl : (es.map (Value.int .u8)).length = zA.length := by simp [h, zA]
  have one : ∀ v ∈ es.map (Value.int .u8), v.oneCell' = true := fun v hv => by
    obtain ⟨e, _, rfl⟩ := List.mem_map.1 hv; rfl
  refine walk_laws_toByteA136 _ ?_
  refine box (es.map (Value.int .u8)) rfl fun b1 w1 n1 => allocA yA fun b2 w2 n2 => allocA yA fun b3 w3 n3 => ?_
  have r1 : Row w3 (ptr b1 0) (es.map (Value.int .u8)) := ((row_all n1.at_).keep n2.below).keep n3.below
  have hlt1 := at_lt n1.at_
  have hb0 : Below w.heap.size w w3 := (n1.below.trans (n2.below.mono n1.below.size)).trans (n3.below.mono (n1.below.trans (n2.below.mono n1.below.size)).size)
  have e1 := n1.here; have e2 := n2.here; have e3 := n3.here; have s1 := n1.size; have s2 := n2.size
  refine lp (fun i w' => 0 ≤ i ∧ i ≤ 136 ∧ Mod [b3] w3 w' ∧ Blk w' b3 ((es.map (Value.int .u8)).take i.toNat ++ zA.drop i.toNat) tA) (fun i _ => (136 - i).toNat)
    ⟨by omega, by omega, Mod.refl _ _, by simpa using n3.at_⟩ ?_
  rintro i w' N ⟨h0, hi, hm, hblk⟩ hN
  have r1' : Row w' (ptr b1 0) (es.map (Value.int .u8)) := r1.mod hm (by simp; omega)
  unfold B_laws_toByteA136_3
  refine ⟨fun hlt => ?_, fun hge => ?_⟩
  · have hlt := of_decide_eq_true hlt
    have hie : i.toNat < es.length := by omega
    refine ixR yR r1'.isPtr h0 hlt (ld (x := es[i.toNat]) yB (by rw [Nat.mul_one]; exact r1'.get _ (by simp [hie])) ?_)
    refine ixRp yR h0 hlt ?_
    have hlen : ((es.map (Value.int .u8)).take i.toNat ++ zA.drop i.toNat).length = 136 := by simp [h, zA]; omega
    refine st yB hblk (by omega) rfl fun w'' m hs hb => ?_
    rw [Nat.zero_add] at hb
    rw [wrap_small (by omega) (by omega)]
    refine hN _ _ ⟨by omega, by omega, hm.trans m, ?_⟩ (by omega)
    have this := fill_step (xs := es.map (Value.int .u8)) (zs := zA) (i := i.toNat) (by simpa using hie) hl
    rw [List.getElem_map] at this
    rw [show (i + 1).toNat = i.toNat + 1 from by omega, ← this]
    exact hb
  · have hge := of_decide_eq_false hge
    have hi136 : i = 136 := by omega
    subst hi136
    intro _
    have hfull : (es.map (Value.int .u8)).take (136 : Int).toNat ++ zA.drop (136 : Int).toNat = es.map (Value.int .u8) := by
      rw [show (136 : Int).toNat = 136 from rfl, List.take_of_length_le (by simp [h]), List.drop_of_length_le (by simp [zA])]
      simp
    rw [hfull] at hblk
    refine ldA yA hl (blk_row hblk) ?_
    have a2 : Blk w' b2 zA tA := hm.at_ (n3.mod.at_ n2.at_ (by simp)) (by simp; omega)
    refine stA0 yA a2 hl hl one fun w'' m hs hb => ?_
    refine ldA yA hl (blk_row hb) ?_
    refine hK w'' ?_
    have s0 := hb0.size
    have s4 := hm.size
    exact (hb0.trans (hm.below (by omega) (by simp; omega))).trans (m.below (by omega) (by simp; omega))

end Go.Proofs.Ytkadckhealbdaaa

/- The reading of laws_toColouring, and its contract. No condition. -/
namespace Go.Proofs.Ytkadckhealbdaaa
open Go Go.RowKit Eng Mem
set_option linter.unusedVariables false
set_option maxRecDepth 100000
def V_laws_toColouring (a0 : Value) (w : World) (K : Value → World → Prop) : Prop :=
  (Pr Try.prog (Instr.box 24 a0) w (.one .any) fun (a1_2 : Value) w_1 => (Pr Try.prog (Instr.alloc 25 true (.tuple #[])) w_1 (.one .any) fun (x2_4 : Value) w_3 => (Pr Try.prog (Instr.alloc 25 true (.tuple #[])) w_3 (.one .any) fun (out3_6 : Value) w_5 => (QAll Try.prog (Instr.fieldAt 24 a1_2 0) .any fun (x4_7 : Value) => (QSub Try.prog (Instr.loadAt 2 x4_7) w_5 (.int .i64) fun (x5_8 : Int) => (QAll Try.prog (Instr.fieldAt 25 out3_6 0) .any fun (x6_9 : Value) => (PrU Try.prog (Instr.storeAt 2 x6_9 (.int .i64 x5_8)) w_5 fun w_10 => (QAll Try.prog (Instr.fieldAt 24 a1_2 1) .any fun (x7_12 : Value) => (QSub Try.prog (Instr.loadAt 2 x7_12) w_10 (.int .i64) fun (x8_13 : Int) => (QAll Try.prog (Instr.fieldAt 25 out3_6 1) .any fun (x9_14 : Value) => (PrU Try.prog (Instr.storeAt 2 x9_14 (.int .i64 x8_13)) w_10 fun w_15 => (QAll Try.prog (Instr.fieldAt 24 a1_2 2) .any fun (x10_17 : Value) => (QSub Try.prog (Instr.loadAt 22 x10_17) w_15 .any fun (x11_18 : Value) => (Fc Try.prog 45 #[x11_18] w_15 (.one .any) fun (x12_20 : Value) w_19 => (QAll Try.prog (Instr.fieldAt 25 out3_6 2) .any fun (x13_21 : Value) => (PrU Try.prog (Instr.storeAt 22 x13_21 x12_20) w_19 fun w_22 => (QSub Try.prog (Instr.loadAt 25 out3_6) w_22 .any fun (x14_24 : Value) => (PrU Try.prog (Instr.storeAt 25 x2_4 x14_24) w_22 fun w_25 => (QSub Try.prog (Instr.loadAt 25 x2_4) w_25 .any fun (r_27 : Value) => K (r_27 : Value) w_25)))))))))))))))))))

theorem eq_laws_toColouring (a0 : Value) (w : World) (K : Value → World → Prop) :
    W Try.prog ty (fun _ _ _ _ => False) (bodyOf Try.f15) (fnPost Try.prog Try.f15.results.toList (.one .any) K) (frame0 [a0] 15) w = V_laws_toColouring a0 w K := by
  kernel_rfl

theorem body_laws_toColouring : Try.f15.body = some (bodyOf Try.f15) := by kernel_rfl
theorem name_laws_toColouring : (Try.f15.name == "runtime.NumGoroutine") = false := by kernel_rfl

theorem walk_laws_toColouring (a0 : Value) {w : World} {K : Value → World → Prop} (h : V_laws_toColouring a0 w K) : Fc Try.prog 15 #[a0] w (.one .any) K :=
  fn_ok follows (sound_none _) Try.func15 name_laws_toColouring body_laws_toColouring Try.ntmps15 [a0] (Eq.mpr (eq_laws_toColouring a0 w K) h)

-- uses S1Col
theorem c_laws_toColouring {c : Col} {w : World} {K : Value → World → Prop} (h : c.Ok) (hK : ∀ w', Below w.heap.size w w' → K c.val w') :
    Fc Try.prog F_laws_toColouring #[c.val] w (.one .any) K := by
  refine walk_laws_toColouring _ ?_
  refine box c.cells rfl fun b1 w1 n1 => allocA yC fun b2 w2 n2 => allocA yC fun b3 w3 n3 => ?_
  have r1 : ColAt w3 (ptr b1 0) c := ((row_all n1.at_).keep n2.below).keep n3.below
  have e1 := n1.here; have e2 := n2.here; have e3 := n3.here; have s1 := n1.size; have s2 := n2.size; have s3 := n3.size
  have hb0 : Below w.heap.size w w3 := (n1.below.trans (n2.below.mono n1.below.size)).trans (n3.below.mono (n1.below.trans (n2.below.mono n1.below.size)).size)
  have hzl : zC.length = 138 := by simp [zC, zA]
  refine fld g0 r1.nonnil r1.isPtr (ld yI (r1.get 0 rfl) (fldp f0 (st yI n3.at_ (by omega) rfl fun w4 m4 s4 h4 => ?_)))
  have r4 : ColAt w4 (ptr b1 0) c := r1.mod m4 (by simp; omega)
  refine fld g1 r4.nonnil r4.isPtr (ld yI (r4.get 1 rfl) (fldp f1 (st yI h4 (by simp; omega) rfl fun w5 m5 s5 h5 => ?_)))
  have r5 : ColAt w5 (ptr b1 0) c := r4.mod m5 (by simp; omega)
  refine fld g2 r5.nonnil r5.isPtr (ldA yA h.es_len (Col.es_row r5) (c_laws_toByteA136 h.len fun w6 hb6 => ?_))
  have h6 := below_at hb6 h5 (by omega)
  refine fldp f2 (stA yA _ h6 h.es_len (by simp [h.len]; omega) (fun v hv => by obtain ⟨e, _, rfl⟩ := List.mem_map.1 hv; rfl) fun w7 m7 s7 h7 => ?_)
  have hz : zC = .int .i64 0 :: .int .i64 0 :: zA := rfl
  have hcells : List.take (0 + 2) ((zC.set (0 + 0) (.int .i64 c.n)).set (0 + 1) (.int .i64 c.k)) ++ c.es.map (Value.int .u8) ++ List.drop (0 + 2 + (c.es.map (Value.int .u8)).length) ((zC.set (0 + 0) (.int .i64 c.n)).set (0 + 1) (.int .i64 c.k)) = c.cells := by
    rw [List.drop_of_length_le (by simp [h.len]; omega), hz]
    simp [Col.cells]
  rw [hcells] at h7
  have x7 := m7.at_ (below_at hb6 (m5.at_ (m4.at_ (n3.mod.at_ n2.at_ (by simp)) (by simp; omega)) (by simp; omega)) (by omega)) (show b2 ∉ [b3] by simp; omega)
  refine ldA yC h.cells_len (blk_row h7) (stA0 yC x7 h.cells_len h.cells_len c.cells_one fun w8 m8 s8 h8 => ldA yC h.cells_len (blk_row h8) ?_)
  refine hK w8 ?_
  have s6 := hb6.size
  exact ((((hb0.trans (m4.below (by omega) (by simp; omega))).trans (m5.below (by omega) (by simp; omega))).trans (hb6.mono (by omega))).trans (m7.below (by omega) (by simp; omega))).trans (m8.below (by omega) (by simp; omega))

end Go.Proofs.Ytkadckhealbdaaa

/- The reading of spec_l01In, and its contract. No condition. -/
namespace Go.Proofs.Ytkadckhealbdaaa
open Go Go.RowKit Eng Mem
set_option linter.unusedVariables false
set_option maxRecDepth 100000
def V_spec_l01In (n0 : Int) (low1 : Int) (high2 : Int) (w : World) (K : Bool → World → Prop) : Prop :=
  (((decide (n0 ≥ low1)) = true → K (decide (n0 ≤ high2)) w) ∧ ((decide (n0 ≥ low1)) = false → K false w))

theorem eq_spec_l01In (n0 : Int) (low1 : Int) (high2 : Int) (w : World) (K : Bool → World → Prop) :
    W Try.prog ty (fun _ _ _ _ => False) (bodyOf Try.f43) (fnPost Try.prog Try.f43.results.toList (.one .bool) K) (frame0 [(.int .i64 n0), (.int .i64 low1), (.int .i64 high2)] 15) w = V_spec_l01In n0 low1 high2 w K := by
  kernel_rfl

theorem body_spec_l01In : Try.f43.body = some (bodyOf Try.f43) := by kernel_rfl
theorem name_spec_l01In : (Try.f43.name == "runtime.NumGoroutine") = false := by kernel_rfl

theorem walk_spec_l01In (n0 : Int) (low1 : Int) (high2 : Int) {w : World} {K : Bool → World → Prop} (h : V_spec_l01In n0 low1 high2 w K) : Fc Try.prog 43 #[(.int .i64 n0), (.int .i64 low1), (.int .i64 high2)] w (.one .bool) K :=
  fn_ok follows (sound_none _) Try.func43 name_spec_l01In body_spec_l01In Try.ntmps43 [(.int .i64 n0), (.int .i64 low1), (.int .i64 high2)] (Eq.mpr (eq_spec_l01In n0 low1 high2 w K) h)

theorem c_spec_l01In (n lo hi : Int) {w : World} {K : Bool → World → Prop} (hK : K (decide (lo ≤ n ∧ n ≤ hi)) w) : Fc Try.prog F_spec_l01In #[.int .i64 n, .int .i64 lo, .int .i64 hi] w (.one .bool) K := by
  refine walk_spec_l01In n lo hi ⟨fun h => ?_, fun h => ?_⟩
  · have h := of_decide_eq_true h
    simpa [h] using hK
  · have h := of_decide_eq_false h
    have : ¬ lo ≤ n := h
    simpa [this] using hK

end Go.Proofs.Ytkadckhealbdaaa
