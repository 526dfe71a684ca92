/- Texts that the law FnSumParts needs, joined. No condition. -/
import Derived.Test.YtlbhpbaeokgmaaaKFnSumParts1
set_option linter.all false
/- Plain facts about parts without sums: how they go on, their reversal, their classes. No condition. -/
namespace Go.Proofs.Ytlbhpbaeokgmaaa
open Go Go.RowKit Eng Mem
set_option linter.unusedVariables false
set_option maxRecDepth 100000
theorem getD_snoc (l : List Int) (c : Int) {i : Nat} (h : i < l.length) : (l ++ [c]).getD i 0 = l.getD i 0 := by
  simp [List.getD, List.getElem?_append_left h]
theorem isF_snoc {l : List Int} {c kind y z : Int} (hy : 1 ≤ y) (hy' : y ≤ l.length) (hz : 1 ≤ z) (hz' : z ≤ l.length) : IsF (l ++ [c]) kind y z ↔ IsF l kind y z := by
  unfold IsF
  have gy := getD_snoc l c (i := (y - 1).toNat) (by omega)
  have gz := getD_snoc l c (i := (z - 1).toNat) (by omega)
  rw [gy, gz]
  constructor
  · rintro ⟨a, b, d, e, f⟩
    rw [getD_snoc l c (by omega)] at e
    exact ⟨a, b, d, e, f⟩
  · rintro ⟨a, b, d, e, f⟩
    refine ⟨a, b, d, ?_, f⟩
    rw [getD_snoc l c (by omega)]
    exact e
theorem fz_snoc {l : List Int} {c kind : Int} {i : Nat} (hi : i < l.length) : fz (l ++ [c]) kind ((i : Int) + 1) i = fz l kind ((i : Int) + 1) i := by
  unfold fz
  congr 1
  apply List.filter_congr
  intro y hy
  have hy := List.mem_range.1 hy
  rw [decide_eq_decide]
  exact isF_snoc (by omega) (by omega) (by omega) (by omega)
theorem faR_pre {l : List Int} {c kind : Int} : ∀ {m : Nat}, m ≤ l.length → faR (l ++ [c]) kind 0 m = faR l kind 0 m
  | 0, _ => rfl
  | m + 1, h => by
    rw [faR_succ, faR_succ, faR_pre (Nat.le_of_succ_le h)]
    congr 1
    unfold fz3
    simp only [Nat.zero_add]
    rw [fz_snoc (by omega)]
theorem faR_snoc {l : List Int} {c kind : Int} : faR (l ++ [c]) kind 0 (l.length + 1) = faR l kind 0 l.length ++ fz3 (l ++ [c]) kind (l.length + 1) l.length := by
  rw [faR_succ, faR_pre (Nat.le_refl _)]
  simp only [Nat.zero_add]
theorem next_free {l : List Int} {k kind c : Int} (hk : 0 ≤ k) (hf : faR l kind 0 l.length = []) (ha : AllIn l 0 (k - 1)) (hc : c ∈ nextL l kind k.toNat) : faR (l ++ [c]) kind 0 (l ++ [c]).length = [] ∧ AllIn (l ++ [c]) 0 (k - 1) := by
  have hb := nextL_bd l kind k.toNat c hc
  refine ⟨?_, fun x hx => ?_⟩
  · rw [List.length_append, List.length_singleton, faR_snoc, hf]
    unfold nextL at hc
    obtain ⟨q, hq, rfl⟩ := List.mem_map.1 hc
    have := (List.mem_filter.1 hq).2
    simp only [decide_eq_true_eq] at this
    unfold fz3
    rw [this]; rfl
  · rcases List.mem_append.1 hx with hx | hx
    · exact ha x hx
    · have : x = c := by simpa using hx
      omega
theorem findF_free {k kind : Int} {n : Nat} (hk : 0 ≤ k) : ∀ {f : Nat} {l p : List Int}, findF k kind n f l = some p → faR l kind 0 l.length = [] → AllIn l 0 (k - 1) → faR p kind 0 p.length = [] ∧ AllIn p 0 (k - 1)
  | 0, l, p, h, hf, ha => by
    unfold findF at h
    split at h
    · injection h with h; subst h; exact ⟨hf, ha⟩
    · cases h
  | f + 1, l, p, h, hf, ha => by
    unfold findF at h
    split at h
    · injection h with h; subst h; exact ⟨hf, ha⟩
    · obtain ⟨x, hx1, hx⟩ := List.exists_of_findSome?_eq_some h
      obtain ⟨c, hc, rfl⟩ := List.mem_map.1 hx1
      have := next_free hk hf ha hc
      exact findF_free hk hx this.1 this.2
/-! ### Reversal -/
theorem mem_faR {l : List Int} {kind : Int} {m : Nat} {t : List Int} : t ∈ faR l kind 0 m ↔ ∃ y z : Int, 1 ≤ y ∧ y < z ∧ z ≤ m ∧ IsF l kind y z ∧ t = [xF kind y z, y, z] := by
  unfold faR fz3 fz
  simp only [List.mem_flatMap, List.mem_map, List.mem_filter, List.mem_range, decide_eq_true_eq, Nat.zero_add]
  constructor
  · rintro ⟨i, hi, q, ⟨y, ⟨hy, hf⟩, rfl⟩, rfl⟩
    exact ⟨(y : Int) + 1, (i : Int) + 1, by omega, by omega, by omega, hf, rfl⟩
  · rintro ⟨y, z, h1, h2, h3, hf, rfl⟩
    have ey : (((y - 1).toNat : Nat) : Int) + 1 = y := by omega
    have ez : (((z - 1).toNat : Nat) : Int) + 1 = z := by omega
    refine ⟨(z - 1).toNat, by omega, (xF kind y z, y), ⟨(y - 1).toNat, ⟨by omega, ?_⟩, ?_⟩, ?_⟩
    · rw [ey, ez]; exact hf
    · rw [ey, ez]
    · rw [ez]
theorem faR_nodup (l : List Int) (kind : Int) (m : Nat) : (faR l kind 0 m).Nodup := by
  unfold faR
  rw [List.Nodup, List.pairwise_flatMap]
  constructor
  · intro i _
    unfold fz3 fz
    rw [List.map_map, List.pairwise_map]
    refine List.Pairwise.filter _ (List.Pairwise.imp ?_ List.nodup_range)
    intro a b hab he
    simp at he
    omega
  · refine List.Pairwise.imp ?_ List.nodup_range
    intro a b hab x hx y hy he
    unfold fz3 at hx hy
    obtain ⟨p, _, rfl⟩ := List.mem_map.1 hx
    obtain ⟨q, _, rfl⟩ := List.mem_map.1 hy
    simp at he
    omega
theorem nodup_len {α : Type} [DecidableEq α] : ∀ {l m : List α}, l.Nodup → (∀ x ∈ l, x ∈ m) → l.length ≤ m.length
  | [], _, _, _ => Nat.zero_le _
  | a :: l, m, hd, h => by
    have hd := List.pairwise_cons.1 hd
    have ha := h a (by simp)
    have := nodup_len (m := m.erase a) hd.2 fun x hx => (List.mem_erase_of_ne (fun e => hd.1 x hx e.symm)).2 (h x (by simp [hx]))
    rw [List.length_erase_of_mem ha] at this
    have := List.length_pos_of_mem ha
    simp only [List.length_cons]
    omega
theorem getD_rev (l : List Int) {i : Nat} (h : i < l.length) : l.reverse.getD i 0 = l.getD (l.length - 1 - i) 0 := by
  simp [List.getD, List.getElem?_reverse h]
def turn3 (n : Int) (t : List Int) : List Int := (t.map fun v => n + 1 - v).reverse
theorem rev_mem {l : List Int} {t : List Int} (h : t ∈ faR l 2 0 l.length) : turn3 l.length t ∈ faR l.reverse 2 0 l.reverse.length := by
  obtain ⟨y, z, h1, h2, h3, hf, rfl⟩ := mem_faR.1 h
  obtain ⟨a, b, d, e, f⟩ := hf
  have hx : xF 2 y z = 2 * y - z := by unfold xF; rw [if_pos rfl]
  rw [hx] at a b d e
  rw [mem_faR]
  have hx' : xF 2 ((l.length : Int) + 1 - y) ((l.length : Int) + 1 - (2 * y - z)) = (l.length : Int) + 1 - z := by unfold xF; rw [if_pos rfl]; omega
  refine ⟨(l.length : Int) + 1 - y, (l.length : Int) + 1 - (2 * y - z), by omega, by omega, by rw [List.length_reverse]; omega, ⟨?_, ?_, ?_, ?_, ?_⟩, ?_⟩
  · rw [hx']; omega
  · rw [hx']; omega
  · rw [hx']; omega
  · rw [hx', getD_rev l (by omega), getD_rev l (by omega), show l.length - 1 - ((l.length : Int) + 1 - z - 1).toNat = (z - 1).toNat from by omega, show l.length - 1 - ((l.length : Int) + 1 - y - 1).toNat = (y - 1).toNat from by omega]
    exact f.symm
  · rw [getD_rev l (by omega), getD_rev l (by omega), show l.length - 1 - ((l.length : Int) + 1 - (2 * y - z) - 1).toNat = (2 * y - z - 1).toNat from by omega, show l.length - 1 - ((l.length : Int) + 1 - y - 1).toNat = (y - 1).toNat from by omega]
    exact e.symm
  · rw [hx', hx]; rfl
theorem rev_le (l : List Int) : (faR l 2 0 l.length).length ≤ (faR l.reverse 2 0 l.reverse.length).length := by
  have h := nodup_len (l := (faR l 2 0 l.length).map (turn3 l.length)) (m := faR l.reverse 2 0 l.reverse.length) ?_ ?_
  · rwa [List.length_map] at h
  · rw [List.Nodup, List.pairwise_map]
    refine List.Pairwise.imp ?_ (faR_nodup l 2 l.length)
    intro a b hab he
    apply hab
    unfold turn3 at he
    have he := List.reverse_inj.1 he
    have : ∀ {a b : List Int}, a.map (fun v => (l.length : Int) + 1 - v) = b.map (fun v => (l.length : Int) + 1 - v) → a = b := by
      intro a
      induction a with
      | nil => intro b h; cases b with | nil => rfl | cons _ _ => cases h
      | cons x a ih => intro b h; cases b with
        | nil => cases h
        | cons y b =>
          simp only [List.map_cons, List.cons.injEq] at h
          rw [ih h.2, show x = y from by omega]
    exact this he
  · intro x hx
    obtain ⟨t, ht, rfl⟩ := List.mem_map.1 hx
    exact rev_mem ht
theorem rev_eq (l : List Int) : (faR l.reverse 2 0 l.reverse.length).length = (faR l 2 0 l.length).length := by
  have h1 := rev_le l
  have h2 := rev_le l.reverse
  rw [List.reverse_reverse] at h2
  omega
/-! ### Classes -/
/-- How many of the first m numbers have a colour below c. -/
def totC (l : List Int) (m : Nat) : Nat → Nat
  | 0 => 0
  | c + 1 => totC l m c + (posOf (c : Int) l m).length
theorem totC_succ (l : List Int) (m : Nat) : ∀ c : Nat, totC l (m + 1) c = totC l m c + (if 0 ≤ l.getD m 0 ∧ l.getD m 0 < c then 1 else 0)
  | 0 => by simp only [totC]; rw [if_neg (by omega)]
  | c + 1 => by
    simp only [totC]
    rw [totC_succ l m c, posOf_succ, List.length_append]
    by_cases h : l.getD m 0 = c
    · rw [if_pos h, if_neg (by omega), if_pos (by omega)]; simp; omega
    · rw [if_neg h]
      by_cases h2 : 0 ≤ l.getD m 0 ∧ l.getD m 0 < c
      · rw [if_pos h2, if_pos (by omega)]; simp; omega
      · rw [if_neg h2, if_neg (by omega)]; simp
theorem totC_zero (l : List Int) : ∀ c, totC l 0 c = 0
  | 0 => rfl
  | c + 1 => by simp only [totC, totC_zero l c]; simp [posOf]
theorem totC_all {l : List Int} {k : Nat} : ∀ {m : Nat}, m ≤ l.length → AllIn l 0 ((k : Int) - 1) → totC l m k = m
  | 0, _, _ => totC_zero l k
  | m + 1, h, ha => by
    rw [totC_succ, totC_all (Nat.le_of_succ_le h) ha]
    have := ha.get (i := m) (by omega)
    rw [if_pos (by omega)]
theorem totC_le (l : List Int) (m : Nat) : ∀ c, totC l m c ≤ c * m
  | 0 => by simp [totC]
  | c + 1 => by
    simp only [totC]
    have := totC_le l m c
    have := posOf_len (c : Int) l m
    rw [Nat.add_mul]; omega
/-! ### What the law asks -/
theorem freeF_true {k kind : Int} {p : List Int} (h : IsPart k p) (d0 : 0 ≤ kind) (d1 : kind ≤ 2) (hf : faR p kind 0 p.length = []) : freeF k p kind = (true, 0) := by
  unfold freeF; rw [if_pos ⟨h, d0, d1⟩]; simp [hf]
theorem freeF_part {k kind : Int} {p : List Int} (h : (freeF k p kind).2 = 0) : IsPart k p ∧ 0 ≤ kind ∧ kind ≤ 2 := by
  unfold freeF at h
  split at h
  · assumption
  · simp at h
theorem part_ins {k : Int} {p : List Int} (h : IsPart k p) : InI p := fun x hx => by
  have h1 := h.2.1; have := h.2.2.2 x hx; omega
theorem next_ok {k kind x : Int} {p : List Int} (hx : x ∈ (nextOf k p kind).1) : freeF k (p ++ [x]) kind = (true, 0) ∧ p.length ≤ 40 ∧ InI (p ++ [x]) := by
  unfold nextOf at hx
  split at hx
  · rename_i h
    obtain ⟨⟨k1, k3, hl, ha⟩, d0, d1⟩ := h
    split at hx
    · cases hx
    · rename_i hne
      split at hx
      · rename_i hf
        have hn := next_free (by omega) hf ha hx
        have hp : IsPart k (p ++ [x]) := ⟨k1, k3, by simp; omega, hn.2⟩
        exact ⟨freeF_true hp d0 d1 hn.1, hl, part_ins hp⟩
      · cases hx
  · cases hx
theorem firstFree_ok {n k kind : Int} (h : (firstFree n k kind).2 = 0) : freeF k (firstFree n k kind).1 kind = (true, 0) ∧ ((firstFree n k kind).1.length : Int) = n ∧ n ≤ 14 ∧ InI (firstFree n k kind).1 := by
  unfold firstFree at h ⊢
  split at h
  · rename_i hc
    rw [if_pos hc]
    split at h
    · simp at h
    · rename_i p hp
      have hf := findF_free (by omega) hp rfl (fun x hx => by cases hx)
      have hl := findF_len hp
      have hpart : IsPart k p := ⟨hc.2.1.1, hc.2.1.2, by omega, hf.2⟩
      exact ⟨freeF_true hpart hc.2.2.1 hc.2.2.2 hf.1, by simp only; omega, hc.1.2, part_ins hpart⟩
  · simp at h
theorem fault_ok {k kind : Int} {p : List Int} (h : (firstF k p kind).2 = 0) : ∃ x y z : Int, (firstF k p kind).1 = [x, y, z] ∧ 1 ≤ x ∧ x ≤ y ∧ y < z ∧ z ≤ p.length ∧ p.length ≤ 40 ∧ p.getD (x - 1).toNat 0 = p.getD (y - 1).toNat 0 ∧ p.getD (y - 1).toNat 0 = p.getD (z - 1).toNat 0 ∧ 0 ≤ kind ∧ kind ≤ 2 ∧ x = xF kind y z := by
  unfold firstF at h ⊢
  split at h
  · rename_i hc
    rw [if_pos hc]
    split at h
    · simp at h
    · rename_i t ts ht
      have hm : t ∈ faR p kind 0 p.length := by rw [ht]; simp
      obtain ⟨y, z, h1, h2, h3, ⟨a, b, c, d, e⟩, rfl⟩ := mem_faR.1 hm
      exact ⟨xF kind y z, y, z, rfl, a, b, h2, h3, hc.1.2.2.1, d, e, hc.2.1, hc.2.2, rfl⟩
  · simp at h
theorem free_cnt {k kind : Int} {p : List Int} (h : (freeF k p kind).2 = 0) : (freeF k p kind).1 = ((cntF k p kind).1 == 0) ∧ (freeF k p kind).1 = ((firstF k p kind).2 == 4) := by
  have hc := freeF_part h
  unfold freeF cntF firstF
  rw [if_pos hc, if_pos hc, if_pos hc]
  cases hf : faR p kind 0 p.length with
  | nil => simp
  | cons t ts => simp; omega
theorem refl_ok {k : Int} {p : List Int} (h : IsPart k p) : reflOf k p = (p.reverse, 0) ∧ InI p.reverse ∧ (cntF k p.reverse 2).2 = 0 ∧ (cntF k p 2).2 = 0 ∧ (cntF k p.reverse 2).1 = (cntF k p 2).1 := by
  have hr : IsPart k p.reverse := ⟨h.1, h.2.1, by rw [List.length_reverse]; exact h.2.2.1, fun x hx => h.2.2.2 x (List.mem_reverse.1 hx)⟩
  unfold reflOf cntF
  rw [if_pos h, if_pos ⟨hr, by omega, by omega⟩, if_pos ⟨h, by omega, by omega⟩]
  refine ⟨rfl, part_ins hr, rfl, rfl, ?_⟩
  simp only
  rw [rev_eq]
theorem class_ok {k c : Int} {p : List Int} (h : IsPart k p) (c0 : 0 ≤ c) (c1 : c < k) : classOf k p c = (posOf c p p.length, 0) := by
  unfold classOf; rw [if_pos ⟨h, c0, by omega⟩]
theorem at0 {w : World} {v : Value} {x y z : Int} {k : IntKind} {K : Int → Prop} (h : SlI w v [x, y, z]) (hK : K x) : QAll Try.prog (Instr.indexAt tSI v (.int k 0)) .any fun p => QSub Try.prog (Instr.loadAt tI p) w (.int .i64) K := atI h (by omega) (by simp) hK
theorem at1 {w : World} {v : Value} {x y z : Int} {k : IntKind} {K : Int → Prop} (h : SlI w v [x, y, z]) (hK : K y) : QAll Try.prog (Instr.indexAt tSI v (.int k 1)) .any fun p => QSub Try.prog (Instr.loadAt tI p) w (.int .i64) K := atI h (by omega) (by simp) hK
theorem at2 {w : World} {v : Value} {x y z : Int} {k : IntKind} {K : Int → Prop} (h : SlI w v [x, y, z]) (hK : K z) : QAll Try.prog (Instr.indexAt tSI v (.int k 2)) .any fun p => QSub Try.prog (Instr.loadAt tI p) w (.int .i64) K := atI h (by omega) (by simp) hK
theorem bt {w0 w w' : World} (h : Below w0.heap.size w0 w) (k : Below w.heap.size w w') : Below w0.heap.size w0 w' := h.trans (k.mono h.size)
end Go.Proofs.Ytlbhpbaeokgmaaa

/- The reading of impl_in, and its contract. No condition. -/
namespace Go.Proofs.Ytlbhpbaeokgmaaa
open Go Go.RowKit Eng Mem
set_option linter.unusedVariables false
set_option maxRecDepth 100000
def V_impl_in (n0 : Int) (low1 : Int) (high2 : Int) (w : World) (K : Bool → World → Prop) : Prop :=
  (((decide (n0 ≥ low1)) = true → K (decide (n0 ≤ high2)) w) ∧ ((decide (n0 ≥ low1)) = false → K false w))

theorem eq_impl_in (n0 : Int) (low1 : Int) (high2 : Int) (w : World) (K : Bool → World → Prop) :
    W Try.prog ty (fun _ _ _ _ => False) (bodyOf Try.f47) (fnPost Try.prog Try.f47.results.toList (.one .bool) K) (frame0 [(.int .i64 n0), (.int .i64 low1), (.int .i64 high2)] 15) w = V_impl_in n0 low1 high2 w K := by
  kernel_rfl

theorem body_impl_in : Try.f47.body = some (bodyOf Try.f47) := by kernel_rfl
theorem name_impl_in : (Try.f47.name == "runtime.NumGoroutine") = false := by kernel_rfl

theorem walk_impl_in (n0 : Int) (low1 : Int) (high2 : Int) {w : World} {K : Bool → World → Prop} (h : V_impl_in n0 low1 high2 w K) : Fc Try.prog 47 #[(.int .i64 n0), (.int .i64 low1), (.int .i64 high2)] w (.one .bool) K :=
  fn_ok follows (sound_none _) Try.func47 name_impl_in body_impl_in Try.ntmps47 [(.int .i64 n0), (.int .i64 low1), (.int .i64 high2)] (Eq.mpr (eq_impl_in n0 low1 high2 w K) h)

theorem c_impl_in (n lo hi : Int) {w : World} {K : Bool → World → Prop} (hK : K (decide (lo ≤ n ∧ n ≤ hi)) w) : Fc Try.prog F_impl_in #[.int .i64 n, .int .i64 lo, .int .i64 hi] w (.one .bool) K := by
  refine walk_impl_in n lo hi ⟨fun h => ?_, fun h => ?_⟩
  · have h := of_decide_eq_true h
    simpa [h] using hK
  · have h := of_decide_eq_false h
    have : ¬ lo ≤ n := h
    simpa [this] using hK

end Go.Proofs.Ytlbhpbaeokgmaaa

/- The reading of impl_areIn_1, and its contract. No condition. -/
namespace Go.Proofs.Ytlbhpbaeokgmaaa
open Go Go.RowKit Eng Mem
set_option linter.unusedVariables false
set_option maxRecDepth 100000
def V_impl_areIn_1 (n0 : Int) (x1 : Value) (x2 : Value) (w : World) (K : Bool → World → Prop) : Prop :=
  (QSub Try.prog (Instr.loadAt 2 x1) w (.int .i64) fun (x6_1 : Int) => (QSub Try.prog (Instr.loadAt 2 x2) w (.int .i64) fun (x7_2 : Int) => (Fc Try.prog 47 #[(.int .i64 n0), (.int .i64 x6_1), (.int .i64 x7_2)] w (.one .bool) fun (x8_4 : Bool) w_3 => K (!x8_4) w_3)))

theorem eq_impl_areIn_1 (n0 : Int) (x1 : Value) (x2 : Value) (w : World) (K : Bool → World → Prop) :
    W Try.prog ty (fun _ _ _ _ => False) (bodyOf Try.f80) (fnPost Try.prog Try.f80.results.toList (.one .bool) K) (frame0 [(.int .i64 n0), x1, x2] 10) w = V_impl_areIn_1 n0 x1 x2 w K := by
  kernel_rfl

theorem body_impl_areIn_1 : Try.f80.body = some (bodyOf Try.f80) := by kernel_rfl
theorem name_impl_areIn_1 : (Try.f80.name == "runtime.NumGoroutine") = false := by kernel_rfl

theorem walk_impl_areIn_1 (n0 : Int) (x1 : Value) (x2 : Value) {w : World} {K : Bool → World → Prop} (h : V_impl_areIn_1 n0 x1 x2 w K) : Fc Try.prog 80 #[(.int .i64 n0), x1, x2] w (.one .bool) K :=
  fn_ok follows (sound_none _) Try.func80 name_impl_areIn_1 body_impl_areIn_1 Try.ntmps80 [(.int .i64 n0), x1, x2] (Eq.mpr (eq_impl_areIn_1 n0 x1 x2 w K) h)

-- uses S2Sl
theorem c_impl_areIn_1 {p q : Value} {n lo hi : Int} {w : World} {K : Bool → World → Prop} (hp : Cell w p (.int .i64 lo)) (hq : Cell w q (.int .i64 hi)) (hK : K (!decide (lo ≤ n ∧ n ≤ hi)) w) :
    Fc Try.prog F_impl_areIn_1 #[.int .i64 n, p, q] w (.one .bool) K :=
  walk_impl_areIn_1 _ _ _ (ld (k := .int .i64) yI hp (ld (k := .int .i64) yI hq (c_impl_in _ _ _ hK)))

end Go.Proofs.Ytlbhpbaeokgmaaa

/- The reading of impl_sizeS, and its contract. No condition. -/
namespace Go.Proofs.Ytlbhpbaeokgmaaa
open Go Go.RowKit Eng Mem
set_option linter.unusedVariables false
set_option maxRecDepth 100000
def V_impl_sizeS (list0 : Value) (w : World) (K : Int → World → Prop) : Prop :=
  (QAll Try.prog (Builtin.len_ #[24] 3 #[list0]) (.int .i64) fun (x4_1 : Int) => K x4_1 w)

theorem eq_impl_sizeS (list0 : Value) (w : World) (K : Int → World → Prop) :
    W Try.prog ty (fun _ _ _ _ => False) (bodyOf Try.f52) (fnPost Try.prog Try.f52.results.toList (.one (.int .i64)) K) (frame0 [list0] 5) w = V_impl_sizeS list0 w K := by
  kernel_rfl

theorem body_impl_sizeS : Try.f52.body = some (bodyOf Try.f52) := by kernel_rfl
theorem name_impl_sizeS : (Try.f52.name == "runtime.NumGoroutine") = false := by kernel_rfl

theorem walk_impl_sizeS (list0 : Value) {w : World} {K : Int → World → Prop} (h : V_impl_sizeS list0 w K) : Fc Try.prog 52 #[list0] w (.one (.int .i64)) K :=
  fn_ok follows (sound_none _) Try.func52 name_impl_sizeS body_impl_sizeS Try.ntmps52 [list0] (Eq.mpr (eq_impl_sizeS list0 w K) h)

-- uses S2Sl
theorem c_impl_sizeS {a : Value} {l : List Int} {w : World} {K : Int → World → Prop} (h : SlI w a l) (hK : K (l.length : Int) w) : Fc Try.prog F_impl_sizeS #[a] w (.one (.int .i64)) K :=
  walk_impl_sizeS _ (lenI h hK)

end Go.Proofs.Ytlbhpbaeokgmaaa

/- The reading of slices_IndexFunc_int64_int64, and its contract. No condition. -/
namespace Go.Proofs.Ytlbhpbaeokgmaaa
open Go Go.RowKit Eng Mem
set_option linter.unusedVariables false
set_option maxRecDepth 100000
def B_slices_IndexFunc_int64_int64_2 (s0 : Value) (f1 : Value) (x7 : Int) (x8 : Int) (N : (Value × Value × Int) → Int → World → Prop) (D0 : (Unit) → World → Prop) (R : (Int × Unit) → World → Prop) (w : World) : Prop :=
  (((decide (x8 < x7)) = true → (QAll Try.prog (Instr.indexAt 24 s0 (.int .i64 x8)) .any fun (x14_2 : Value) => (QSub Try.prog (Instr.loadAt 2 x14_2) w (.int .i64) fun (x15_3 : Int) => (callV Try.prog f1 #[(.int .i64 x15_3)] w (.one .bool) fun (x16_5 : Bool) w_4 => ((x16_5 = true → R (x8, ()) w_4) ∧ (x16_5 = false → N ((s0 : Value), (f1 : Value), x7) (IntKind.i64.wrap (x8 + (1 : Int))) w_4)))))) ∧ ((decide (x8 < x7)) = false → D0 () w))

abbrev L_slices_IndexFunc_int64_int64_2_e0 : List Slot := [.junk, .junk, .junk, .junk, .junk, .junk, .junk, .junk, .junk, .junk, .junk, .junk, .junk, .junk, .junk, .junk, .junk, .junk, .junk]

abbrev L_slices_IndexFunc_int64_int64_2_sp : List Slot := [.k .any, .k .any, .junk, .junk, .junk, .junk, .junk, .k (.int .i64), .k (.int .i64), .junk, .junk, .junk, .junk, .junk, .junk, .junk, .junk, .junk, .junk]
abbrev L_slices_IndexFunc_int64_int64_2_ex : List (Nat × List Slot) := [(0, L_slices_IndexFunc_int64_int64_2_e0)]
abbrev L_slices_IndexFunc_int64_int64_2_rt : List Slot := [.junk, .junk, .junk, .junk, .k (.int .i64), .junk, .junk, .junk, .junk, .junk, .junk, .junk, .junk, .junk, .junk, .junk, .junk, .junk, .junk]

def L_slices_IndexFunc_int64_int64_2_b (Φ : Post) (u : (Value × Value × Int)) (N : (Value × Value × Int) → Int → World → Prop) (s : Int) (w : World) : Prop :=
  B_slices_IndexFunc_int64_int64_2 u.1 u.2.1 u.2.2 s N (fun v w => ∀ j : Nat → Value, Φ (.exit 0) (mkT j 0 L_slices_IndexFunc_int64_int64_2_e0 v) w) (fun v w => ∀ j : Nat → Value, Φ .ret (mkT j 0 L_slices_IndexFunc_int64_int64_2_rt v) w) w

theorem L_slices_IndexFunc_int64_int64_2_eq (j : Nat → Value) (u : (Value × Value × Int)) (s : Int) (N : (Value × Value × Int) → Int → World → Prop) (D0 : (Unit) → World → Prop) (R : (Int × Unit) → World → Prop) (w : World) :
    W Try.prog ty (fun _ _ _ _ => False) (loopAt Try.f86 2) (loopPost L_slices_IndexFunc_int64_int64_2_sp [(0, (⟨L_slices_IndexFunc_int64_int64_2_e0, D0⟩ : Door))] ⟨L_slices_IndexFunc_int64_int64_2_rt, R⟩ (fun v w => N ((fun v => (v.1, v.2.1, v.2.2.1)) v) ((fun v => v.2.2.2.1) v) w)) (mkT j 0 L_slices_IndexFunc_int64_int64_2_sp ((fun u s => (u.1, u.2.1, u.2.2, s, ())) u s)) w =
    B_slices_IndexFunc_int64_int64_2 u.1 u.2.1 u.2.2 s N D0 R w := by
  kernel_rfl

def O_slices_IndexFunc_int64_int64_1 : Code → Post → List SV → World → Prop :=
  orc 2 (loopAt Try.f86 2) L_slices_IndexFunc_int64_int64_2_sp (fun Φ fr w => LOOP (U := (Value × Value × Int)) (S := Int) ((fun v => (v.1, v.2.1, v.2.2.1)) (extT L_slices_IndexFunc_int64_int64_2_sp fr)) (L_slices_IndexFunc_int64_int64_2_b Φ ((fun v => (v.1, v.2.1, v.2.2.1)) (extT L_slices_IndexFunc_int64_int64_2_sp fr))) ((fun v => v.2.2.2.1) (extT L_slices_IndexFunc_int64_int64_2_sp fr)) w) (fun _ _ _ _ => False)

theorem O_slices_IndexFunc_int64_int64_1_ok : Sound Try.prog O_slices_IndexFunc_int64_int64_1 :=
  orc_ok (sound_none _) fun Φ fr w hs h => loop_ok (ty := ty) follows (sound_none _) L_slices_IndexFunc_int64_int64_2_sp (fun v => (v.1, v.2.1, v.2.2.1)) (fun v => v.2.2.2.1) (fun u s => (u.1, u.2.1, u.2.2, s, ())) (fun _ => rfl) L_slices_IndexFunc_int64_int64_2_ex L_slices_IndexFunc_int64_int64_2_rt (body := L_slices_IndexFunc_int64_int64_2_b Φ) (fun j u s w N hb => by
    have e := L_slices_IndexFunc_int64_int64_2_eq j u s N (doorOf Φ (.exit 0) L_slices_IndexFunc_int64_int64_2_e0).D (doorOf Φ .ret L_slices_IndexFunc_int64_int64_2_rt).D w
    exact Eq.mpr e hb) hs h

def V_slices_IndexFunc_int64_int64 (s0 : Value) (f1 : Value) (w : World) (K : Int → World → Prop) : Prop :=
  (QAll Try.prog (Builtin.len_ #[24] 3 #[s0]) (.int .i64) fun (x7_1 : Int) => (At (loopAt Try.f86 2) (loopAt Try.f86 2) (LOOP (U := (Value × Value × Int)) (S := Int) ((s0 : Value), (f1 : Value), x7_1) (fun N_12 s_13 w_14 => B_slices_IndexFunc_int64_int64_2 (s0 : Value) (f1 : Value) x7_1 s_13 N_12 (fun (v_6 : (Unit)) w_7 => ∀ _j_8 : Nat → Value, K (-1 : Int) w_7) (fun (v_9 : (Int × Unit)) w_10 => ∀ _j_11 : Nat → Value, K v_9.1 w_10) w_14) (0 : Int) w)))

theorem eq_slices_IndexFunc_int64_int64 (s0 : Value) (f1 : Value) (w : World) (K : Int → World → Prop) :
    W Try.prog ty O_slices_IndexFunc_int64_int64_1 (bodyOf Try.f86) (fnPost Try.prog Try.f86.results.toList (.one (.int .i64)) K) (frame0 [s0, f1] 19) w = V_slices_IndexFunc_int64_int64 s0 f1 w K := by
  kernel_rfl

theorem body_slices_IndexFunc_int64_int64 : Try.f86.body = some (bodyOf Try.f86) := by kernel_rfl
theorem name_slices_IndexFunc_int64_int64 : (Try.f86.name == "runtime.NumGoroutine") = false := by kernel_rfl

theorem walk_slices_IndexFunc_int64_int64 (s0 : Value) (f1 : Value) {w : World} {K : Int → World → Prop} (h : V_slices_IndexFunc_int64_int64 s0 f1 w K) : Fc Try.prog 86 #[s0, f1] w (.one (.int .i64)) K :=
  fn_ok follows O_slices_IndexFunc_int64_int64_1_ok Try.func86 name_slices_IndexFunc_int64_int64 body_slices_IndexFunc_int64_int64 Try.ntmps86 [s0, f1] (Eq.mpr (eq_slices_IndexFunc_int64_int64 s0 f1 w K) h)

-- uses S2Sl
theorem c_slices_IndexFunc_int64_int64 {s f : Value} {l : List Int} (g : Int → Bool) {w : World} {K : Int → World → Prop} (h : SlI w s l)
    (hf : ∀ x ∈ l, ∀ (w' : World) (K' : Bool → World → Prop), Below w.heap.size w w' → (∀ w'', Below w'.heap.size w' w'' → K' (g x) w'') → callV Try.prog f #[.int .i64 x] w' (.one .bool) K')
    (hK : ∀ w' (r : Int), Below w.heap.size w w' → (r = -1 ∧ l.any g = false ∨ ∃ i : Nat, r = i ∧ i < l.length ∧ g (l.getD i 0) = true ∧ ∀ j, j < i → g (l.getD j 0) = false) → K r w') :
    Fc Try.prog F_slices_IndexFunc_int64_int64 #[s, f] w (.one (.int .i64)) K := by
  have hlen := h.len
  refine walk_slices_IndexFunc_int64_int64 _ _ (lenI h ?_)
  refine lp (fun i w' => 0 ≤ i ∧ i ≤ l.length ∧ Below w.heap.size w w' ∧ ∀ j : Nat, (j : Int) < i → g (l.getD j 0) = false) (fun i _ => (l.length - i).toNat)
    ⟨by omega, by omega, Below.refl _ _, fun j hj => by omega⟩ ?_
  rintro i w1 N ⟨h0, hi, hb, hall⟩ hN
  unfold B_slices_IndexFunc_int64_int64_2
  refine ⟨fun hlt => ?_, fun hge => ?_⟩
  · have hlt := dec_t hlt
    refine atI (h.keep hb) h0 hlt ?_
    have hm : l.getD i.toNat 0 ∈ l := by
      simp only [List.getD, show i.toNat < l.length from by omega, List.getElem?_eq_getElem, Option.getD_some]
      exact List.getElem_mem _
    refine hf _ hm w1 _ hb fun w2 hb2 => ?_
    have hbb := hb.trans (hb2.mono hb.size)
    refine ⟨fun ht _ => hK w2 _ hbb (.inr ⟨i.toNat, by omega, by omega, ht, fun j hj => hall j (by omega)⟩), fun hn => ?_⟩
    rw [wrap_small (by omega) (by omega)]
    refine hN _ _ ⟨by omega, by omega, hbb, fun j hj => ?_⟩ (by omega)
    by_cases hji : (j : Int) < i
    · exact hall j hji
    · have : j = i.toNat := by omega
      subst this; exact hn
  · have hge := dec_f hge
    refine fun _ => hK w1 _ hb (.inl ⟨rfl, ?_⟩)
    rw [List.any_eq_false]
    intro x hx
    obtain ⟨j, hj, rfl⟩ := List.getElem_of_mem hx
    have := hall j (by omega)
    simpa [List.getD, hj] using this

end Go.Proofs.Ytlbhpbaeokgmaaa

/- The reading of slices_ContainsFunc_int64_int64, and its contract. No condition. -/
namespace Go.Proofs.Ytlbhpbaeokgmaaa
open Go Go.RowKit Eng Mem
set_option linter.unusedVariables false
set_option maxRecDepth 100000
def V_slices_ContainsFunc_int64_int64 (s0 : Value) (f1 : Value) (w : World) (K : Bool → World → Prop) : Prop :=
  (Fc Try.prog 86 #[s0, f1] w (.one (.int .i64)) fun (x7_2 : Int) w_1 => K (decide (x7_2 ≥ (0 : Int))) w_1)

theorem eq_slices_ContainsFunc_int64_int64 (s0 : Value) (f1 : Value) (w : World) (K : Bool → World → Prop) :
    W Try.prog ty (fun _ _ _ _ => False) (bodyOf Try.f79) (fnPost Try.prog Try.f79.results.toList (.one .bool) K) (frame0 [s0, f1] 9) w = V_slices_ContainsFunc_int64_int64 s0 f1 w K := by
  kernel_rfl

theorem body_slices_ContainsFunc_int64_int64 : Try.f79.body = some (bodyOf Try.f79) := by kernel_rfl
theorem name_slices_ContainsFunc_int64_int64 : (Try.f79.name == "runtime.NumGoroutine") = false := by kernel_rfl

theorem walk_slices_ContainsFunc_int64_int64 (s0 : Value) (f1 : Value) {w : World} {K : Bool → World → Prop} (h : V_slices_ContainsFunc_int64_int64 s0 f1 w K) : Fc Try.prog 79 #[s0, f1] w (.one .bool) K :=
  fn_ok follows (sound_none _) Try.func79 name_slices_ContainsFunc_int64_int64 body_slices_ContainsFunc_int64_int64 Try.ntmps79 [s0, f1] (Eq.mpr (eq_slices_ContainsFunc_int64_int64 s0 f1 w K) h)

-- uses S2Sl
theorem c_slices_ContainsFunc_int64_int64 {s f : Value} {l : List Int} (g : Int → Bool) {w : World} {K : Bool → World → Prop} (h : SlI w s l)
    (hf : ∀ x ∈ l, ∀ (w' : World) (K' : Bool → World → Prop), Below w.heap.size w w' → (∀ w'', Below w'.heap.size w' w'' → K' (g x) w'') → callV Try.prog f #[.int .i64 x] w' (.one .bool) K')
    (hK : ∀ w', Below w.heap.size w w' → K (l.any g) w') :
    Fc Try.prog F_slices_ContainsFunc_int64_int64 #[s, f] w (.one .bool) K := by
  refine walk_slices_ContainsFunc_int64_int64 _ _ (c_slices_IndexFunc_int64_int64 g h hf fun w' r hb hr => ?_)
  have := hK w' hb
  rcases hr with ⟨rfl, hn⟩ | ⟨i, rfl, hi, ht, _⟩
  · rw [hn] at this; exact this
  · rw [show l.any g = true from List.any_eq_true.2 ⟨l[i], List.getElem_mem hi, by simpa [List.getD, hi] using ht⟩] at this
    rw [decide_eq_true (by omega)]; exact this

end Go.Proofs.Ytlbhpbaeokgmaaa

/- The reading of impl_areIn, and its contract. No condition. -/
namespace Go.Proofs.Ytlbhpbaeokgmaaa
open Go Go.RowKit Eng Mem
set_option linter.unusedVariables false
set_option maxRecDepth 100000
def V_impl_areIn (list0 : Value) (many1 : Int) (low2 : Int) (high3 : Int) (w : World) (K : Bool → World → Prop) : Prop :=
  (Pr Try.prog (Instr.box 2 (.int .i64 low2)) w (.one .any) fun (low6_2 : Value) w_1 => (Pr Try.prog (Instr.box 2 (.int .i64 high3)) w_1 (.one .any) fun (high7_4 : Value) w_3 => (Fc Try.prog 52 #[list0] w_3 (.one (.int .i64)) fun (x10_6 : Int) w_5 => (((x10_6 == many1) = true → (Fc Try.prog 79 #[list0, (.func (.func 80) #[] #[low6_2, high7_4])] w_5 (.one .bool) fun (x16_8 : Bool) w_7 => K (!x16_8) w_7)) ∧ ((x10_6 == many1) = false → K false w_5)))))

theorem eq_impl_areIn (list0 : Value) (many1 : Int) (low2 : Int) (high3 : Int) (w : World) (K : Bool → World → Prop) :
    W Try.prog ty (fun _ _ _ _ => False) (bodyOf Try.f64) (fnPost Try.prog Try.f64.results.toList (.one .bool) K) (frame0 [list0, (.int .i64 many1), (.int .i64 low2), (.int .i64 high3)] 19) w = V_impl_areIn list0 many1 low2 high3 w K := by
  kernel_rfl

theorem body_impl_areIn : Try.f64.body = some (bodyOf Try.f64) := by kernel_rfl
theorem name_impl_areIn : (Try.f64.name == "runtime.NumGoroutine") = false := by kernel_rfl

theorem walk_impl_areIn (list0 : Value) (many1 : Int) (low2 : Int) (high3 : Int) {w : World} {K : Bool → World → Prop} (h : V_impl_areIn list0 many1 low2 high3 w K) : Fc Try.prog 64 #[list0, (.int .i64 many1), (.int .i64 low2), (.int .i64 high3)] w (.one .bool) K :=
  fn_ok follows (sound_none _) Try.func64 name_impl_areIn body_impl_areIn Try.ntmps64 [list0, (.int .i64 many1), (.int .i64 low2), (.int .i64 high3)] (Eq.mpr (eq_impl_areIn list0 many1 low2 high3 w K) h)

-- uses S3Part
theorem c_impl_areIn {a : Value} {l : List Int} {many lo hi : Int} {w : World} {K : Bool → World → Prop} (h : SlI w a l) (hK : ∀ w', Below w.heap.size w w' → K (decide ((l.length : Int) = many ∧ AllIn l lo hi)) w') :
    Fc Try.prog F_impl_areIn #[a, .int .i64 many, .int .i64 lo, .int .i64 hi] w (.one .bool) K := by
  refine walk_impl_areIn _ _ _ _ (box [.int .i64 lo] rfl fun b1 w1 n1 => box [.int .i64 hi] rfl fun b2 w2 n2 => ?_)
  have hb := n1.below.trans (n2.below.mono n1.below.size)
  have c1 : Cell w2 (ptr b1 0) (.int .i64 lo) := (row_all (cs := [_]) n1.at_).keep n2.below
  have c2 : Cell w2 (ptr b2 0) (.int .i64 hi) := row_all (cs := [_]) n2.at_
  refine c_impl_sizeS (h.keep hb) ⟨fun he => ?_, fun hn => ?_⟩
  · have he := eq_t he
    refine c_slices_ContainsFunc_int64_int64 (fun x => !decide (lo ≤ x ∧ x ≤ hi)) (h.keep hb) (fun x hx w' K' hb' hk => cv rfl ?_) fun w' hb' => ?_
    · exact c_impl_areIn_1 (c1.keep hb') (c2.keep hb') (hk _ (Below.refl _ _))
    · have := hK w' (hb.trans (hb'.mono hb.size))
      have e : decide ((l.length : Int) = many ∧ AllIn l lo hi) = !(l.any fun x => !decide (lo ≤ x ∧ x ≤ hi)) := by
        rw [Bool.eq_iff_iff]
        simp [he, AllIn]
      rw [e] at this
      exact this
  · have := hK w2 hb
    rwa [decide_eq_false (fun hh => eq_f hn hh.1)] at this

end Go.Proofs.Ytlbhpbaeokgmaaa

/- The reading of impl_isPart, and its contract. No condition. -/
namespace Go.Proofs.Ytlbhpbaeokgmaaa
open Go Go.RowKit Eng Mem
set_option linter.unusedVariables false
set_option maxRecDepth 100000
def V_impl_isPart (k0 : Int) (part1 : Value) (w : World) (K : Bool → World → Prop) : Prop :=
  (Fc Try.prog 47 #[(.int .i64 k0), (.int .i64 (1 : Int)), (.int .i64 (3 : Int))] w (.one .bool) fun (x6_2 : Bool) w_1 => ((x6_2 = true → (QAll Try.prog (Builtin.len_ #[24] 3 #[part1]) (.int .i64) fun (x9_3 : Int) => (((decide (x9_3 ≤ (40 : Int))) = true → (Fc Try.prog 52 #[part1] w_1 (.one (.int .i64)) fun (x15_5 : Int) w_4 => (Fc Try.prog 64 #[part1, (.int .i64 x15_5), (.int .i64 (0 : Int)), (.int .i64 (IntKind.i64.wrap (k0 - (1 : Int))))] w_4 (.one .bool) fun (x18_7 : Bool) w_6 => K x18_7 w_6))) ∧ ((decide (x9_3 ≤ (40 : Int))) = false → K false w_1)))) ∧ (x6_2 = false → K false w_1)))

theorem eq_impl_isPart (k0 : Int) (part1 : Value) (w : World) (K : Bool → World → Prop) :
    W Try.prog ty (fun _ _ _ _ => False) (bodyOf Try.f45) (fnPost Try.prog Try.f45.results.toList (.one .bool) K) (frame0 [(.int .i64 k0), part1] 20) w = V_impl_isPart k0 part1 w K := by
  kernel_rfl

theorem body_impl_isPart : Try.f45.body = some (bodyOf Try.f45) := by kernel_rfl
theorem name_impl_isPart : (Try.f45.name == "runtime.NumGoroutine") = false := by kernel_rfl

theorem walk_impl_isPart (k0 : Int) (part1 : Value) {w : World} {K : Bool → World → Prop} (h : V_impl_isPart k0 part1 w K) : Fc Try.prog 45 #[(.int .i64 k0), part1] w (.one .bool) K :=
  fn_ok follows (sound_none _) Try.func45 name_impl_isPart body_impl_isPart Try.ntmps45 [(.int .i64 k0), part1] (Eq.mpr (eq_impl_isPart k0 part1 w K) h)

-- uses S3Part
theorem c_impl_isPart {k : Int} {a : Value} {l : List Int} {w : World} {K : Bool → World → Prop} (h : SlI w a l) (hK : ∀ w', Below w.heap.size w w' → K (decide (IsPart k l)) w') :
    Fc Try.prog F_impl_isPart #[.int .i64 k, a] w (.one .bool) K := by
  have no : ∀ w', Below w.heap.size w w' → ¬ IsPart k l → K false w' := fun w' hb hn => by have := hK w' hb; rwa [decide_eq_false hn] at this
  refine walk_impl_isPart _ _ (c_impl_in _ _ _ ⟨fun h1 => ?_, fun h1 => no w (Below.refl _ _) fun hp => dec_f h1 ⟨hp.1, hp.2.1⟩⟩)
  have h1 := dec_t h1
  refine lenI h ⟨fun h2 => ?_, fun h2 => no w (Below.refl _ _) fun hp => dec_f h2 (by have := hp.2.2.1; omega)⟩
  have h2 := dec_t h2
  refine c_impl_sizeS h ?_
  rw [wrap_small (by omega) (by omega)]
  refine c_impl_areIn h fun w' hb => ?_
  have := hK w' hb
  have e : decide (IsPart k l) = decide ((l.length : Int) = l.length ∧ AllIn l 0 (k - 1)) := by
    simp [IsPart, h1.1, h1.2, show l.length ≤ 40 from by omega]
  rwa [e] at this

end Go.Proofs.Ytlbhpbaeokgmaaa

/- The reading of impl_ClassOfColour, and its contract. No condition. -/
namespace Go.Proofs.Ytlbhpbaeokgmaaa
open Go Go.RowKit Eng Mem
set_option linter.unusedVariables false
set_option maxRecDepth 100000
def B_impl_ClassOfColour_5 (c2 : Int) (x23 : Value) (x24 : Int) (out8 : Value) (x25 : Int) (N : (Int × Value × Int) → (Value × Int) → World → Prop) (D0 : (Value × Unit) → World → Prop) (w : World) : Prop :=
  (((decide (x25 < x24)) = true → (QAll Try.prog (Instr.indexAt 24 x23 (.int .i64 x25)) .any fun (x28_8 : Value) => (QSub Try.prog (Instr.loadAt 2 x28_8) w (.int .i64) fun (x29_9 : Int) => (((x29_9 == c2) = true → (Pr Try.prog (Instr.buildSlice 24 1 #[(0, (.int .i64 (IntKind.i64.wrap (x25 + (1 : Int)))))]) w (.one .any) fun (x36_11 : Value) w_10 => (Pr Try.prog (Builtin.append_ #[24, 24] 24 #[out8, x36_11]) w_10 (.one .any) fun (x37_13 : Value) w_12 => N (c2, (x23 : Value), x24) ((x37_13 : Value), (IntKind.i64.wrap (x25 + (1 : Int)))) w_12))) ∧ ((x29_9 == c2) = false → N (c2, (x23 : Value), x24) ((out8 : Value), (IntKind.i64.wrap (x25 + (1 : Int)))) w))))) ∧ ((decide (x25 < x24)) = false → D0 ((out8 : Value), ()) w))

abbrev L_impl_ClassOfColour_5_e0 : List Slot := [.junk, .junk, .junk, .junk, .junk, .junk, .junk, .junk, .k .any, .junk, .junk, .junk, .junk, .junk, .junk, .junk, .junk, .junk, .junk, .junk, .junk, .junk, .junk, .junk, .junk, .junk, .junk, .junk, .junk, .junk, .junk, .junk, .junk, .junk, .junk, .junk, .junk, .junk, .junk, .junk]

abbrev L_impl_ClassOfColour_5_sp : List Slot := [.junk, .junk, .k (.int .i64), .junk, .junk, .junk, .junk, .junk, .k .any, .junk, .junk, .junk, .junk, .junk, .junk, .junk, .junk, .junk, .junk, .junk, .junk, .junk, .junk, .k .any, .k (.int .i64), .k (.int .i64), .junk, .junk, .junk, .junk, .junk, .junk, .junk, .junk, .junk, .junk, .junk, .junk, .junk, .junk]
abbrev L_impl_ClassOfColour_5_ex : List (Nat × List Slot) := [(0, L_impl_ClassOfColour_5_e0)]
abbrev L_impl_ClassOfColour_5_rt : List Slot := [.junk, .junk, .junk, .junk, .junk, .junk, .junk, .junk, .junk, .junk, .junk, .junk, .junk, .junk, .junk, .junk, .junk, .junk, .junk, .junk, .junk, .junk, .junk, .junk, .junk, .junk, .junk, .junk, .junk, .junk, .junk, .junk, .junk, .junk, .junk, .junk, .junk, .junk, .junk, .junk]

def L_impl_ClassOfColour_5_b (Φ : Post) (u : (Int × Value × Int)) (N : (Int × Value × Int) → (Value × Int) → World → Prop) (s : (Value × Int)) (w : World) : Prop :=
  B_impl_ClassOfColour_5 u.1 u.2.1 u.2.2 s.1 s.2 N (fun v w => ∀ j : Nat → Value, Φ (.exit 0) (mkT j 0 L_impl_ClassOfColour_5_e0 v) w) w

theorem L_impl_ClassOfColour_5_eq (j : Nat → Value) (u : (Int × Value × Int)) (s : (Value × Int)) (N : (Int × Value × Int) → (Value × Int) → World → Prop) (D0 : (Value × Unit) → World → Prop) (R : (Unit) → World → Prop) (w : World) :
    W Try.prog ty (fun _ _ _ _ => False) (loopAt Try.f18 5) (loopPost L_impl_ClassOfColour_5_sp [(0, (⟨L_impl_ClassOfColour_5_e0, D0⟩ : Door))] ⟨L_impl_ClassOfColour_5_rt, R⟩ (fun v w => N ((fun v => (v.1, v.2.2.1, v.2.2.2.1)) v) ((fun v => (v.2.1, v.2.2.2.2.1)) v) w)) (mkT j 0 L_impl_ClassOfColour_5_sp ((fun u s => (u.1, s.1, u.2.1, u.2.2, s.2, ())) u s)) w =
    B_impl_ClassOfColour_5 u.1 u.2.1 u.2.2 s.1 s.2 N D0 w := by
  kernel_rfl

def O_impl_ClassOfColour_1 : Code → Post → List SV → World → Prop :=
  orc 5 (loopAt Try.f18 5) L_impl_ClassOfColour_5_sp (fun Φ fr w => LOOP (U := (Int × Value × Int)) (S := (Value × Int)) ((fun v => (v.1, v.2.2.1, v.2.2.2.1)) (extT L_impl_ClassOfColour_5_sp fr)) (L_impl_ClassOfColour_5_b Φ ((fun v => (v.1, v.2.2.1, v.2.2.2.1)) (extT L_impl_ClassOfColour_5_sp fr))) ((fun v => (v.2.1, v.2.2.2.2.1)) (extT L_impl_ClassOfColour_5_sp fr)) w) (fun _ _ _ _ => False)

theorem O_impl_ClassOfColour_1_ok : Sound Try.prog O_impl_ClassOfColour_1 :=
  orc_ok (sound_none _) fun Φ fr w hs h => loop_ok (ty := ty) follows (sound_none _) L_impl_ClassOfColour_5_sp (fun v => (v.1, v.2.2.1, v.2.2.2.1)) (fun v => (v.2.1, v.2.2.2.2.1)) (fun u s => (u.1, s.1, u.2.1, u.2.2, s.2, ())) (fun _ => rfl) L_impl_ClassOfColour_5_ex L_impl_ClassOfColour_5_rt (body := L_impl_ClassOfColour_5_b Φ) (fun j u s w N hb => by
    have e := L_impl_ClassOfColour_5_eq j u s N (doorOf Φ (.exit 0) L_impl_ClassOfColour_5_e0).D (doorOf Φ .ret L_impl_ClassOfColour_5_rt).D w
    exact Eq.mpr e hb) hs h

def V_impl_ClassOfColour (k0 : Int) (part1 : Value) (c2 : Int) (w : World) (K : (Value × Int) → World → Prop) : Prop :=
  (Fc Try.prog 45 #[(.int .i64 k0), part1] w (.one .bool) fun (x13_2 : Bool) w_1 => (((!x13_2) = true → K (((.slice none 0 0) : Value), (2 : Int)) w_1) ∧ ((!x13_2) = false → (Fc Try.prog 47 #[(.int .i64 c2), (.int .i64 (0 : Int)), (.int .i64 (IntKind.i64.wrap (k0 - (1 : Int))))] w_1 (.one .bool) fun (x19_4 : Bool) w_3 => (((!x19_4) = true → K (((.slice none 0 0) : Value), (2 : Int)) w_3) ∧ ((!x19_4) = false → (Pr Try.prog (Instr.buildSlice 24 0 #[]) w_3 (.one .any) fun (x22_6 : Value) w_5 => (QAll Try.prog (Builtin.len_ #[24] 3 #[part1]) (.int .i64) fun (x24_7 : Int) => (At (loopAt Try.f18 5) (loopAt Try.f18 5) (LOOP (U := (Int × Value × Int)) (S := (Value × Int)) (c2, (part1 : Value), x24_7) (fun N_17 s_18 w_19 => B_impl_ClassOfColour_5 c2 (part1 : Value) x24_7 s_18.1 s_18.2 N_17 (fun (v_14 : (Value × Unit)) w_15 => ∀ _j_16 : Nat → Value, K ((v_14.1 : Value), (0 : Int)) w_15) w_19) ((x22_6 : Value), (0 : Int)) w_5))))))))))

theorem eq_impl_ClassOfColour (k0 : Int) (part1 : Value) (c2 : Int) (w : World) (K : (Value × Int) → World → Prop) :
    W Try.prog ty O_impl_ClassOfColour_1 (bodyOf Try.f18) (fnPost Try.prog Try.f18.results.toList (.two .any (.int .i64)) K) (frame0 [(.int .i64 k0), part1, (.int .i64 c2)] 40) w = V_impl_ClassOfColour k0 part1 c2 w K := by
  kernel_rfl

theorem body_impl_ClassOfColour : Try.f18.body = some (bodyOf Try.f18) := by kernel_rfl
theorem name_impl_ClassOfColour : (Try.f18.name == "runtime.NumGoroutine") = false := by kernel_rfl

theorem walk_impl_ClassOfColour (k0 : Int) (part1 : Value) (c2 : Int) {w : World} {K : (Value × Int) → World → Prop} (h : V_impl_ClassOfColour k0 part1 c2 w K) : Fc Try.prog 18 #[(.int .i64 k0), part1, (.int .i64 c2)] w (.two .any (.int .i64)) K :=
  fn_ok follows O_impl_ClassOfColour_1_ok Try.func18 name_impl_ClassOfColour body_impl_ClassOfColour Try.ntmps18 [(.int .i64 k0), part1, (.int .i64 c2)] (Eq.mpr (eq_impl_ClassOfColour k0 part1 c2 w K) h)

-- uses S4Class
theorem c_impl_ClassOfColour {k c : Int} {a : Value} {l : List Int} {w : World} {K : Value × Int → World → Prop} (_ : I64 k) (ha : ArgI w a l) (_ : I64 c)
    (hK : ∀ w' v, Below w.heap.size w w' → MyI w.heap.size w'.heap.size w' v (classOf k l c).1 → K (v, (classOf k l c).2) w') :
    Fc Try.prog F_impl_ClassOfColour #[.int .i64 k, a, .int .i64 c] w (.two .any (.int .i64)) K := by
  have h := ha.sl
  have no : ¬ (IsPart k l ∧ 0 ≤ c ∧ c ≤ k - 1) → ∀ w0, Below w.heap.size w w0 → K (.slice none 0 0, 2) w0 := fun hn w0 hw0 => by
    have := hK w0 (.slice none 0 0) hw0; rw [classOf, if_neg hn] at this; exact this (myI_nil _ _ _)
  refine walk_impl_ClassOfColour _ _ _ (c_impl_isPart h fun w0 hw0 => ?_)
  have h0 := h
  replace h := h.keep hw0
  by_cases hp : IsPart k l
  · rw [decide_eq_true hp]
    refine ⟨fun h => Bool.noConfusion h, fun _ => ?_⟩
    rw [wrap_small (by have := hp.1; omega) (by have := hp.2.1; omega)]
    refine c_impl_in _ _ _ ⟨fun hn => no (fun hh => notd_t hn hh.2) _ hw0, fun hy => ?_⟩
    have hy := notd_f hy
    have hlen := hp.2.2.1
    have hz0 := hw0.size
    refine nilI fun b v w1 hb hbel ho => lenI (h.keep hbel) ?_
    refine lp (fun s w' => 0 ≤ s.2 ∧ s.2 ≤ l.length ∧ Below w.heap.size w w' ∧ ∃ b, w.heap.size ≤ b ∧ OwnI w' b s.1 (posOf c l s.2.toNat)) (fun s _ => (l.length - s.2).toNat)
      ⟨by simp, by simp, hw0.trans (hbel.mono hw0.size), b, by omega, ho⟩ ?_
    rintro ⟨v, i⟩ w' N ⟨i0, i1, hb, b', hb', hO⟩ hN
    simp only at i0 i1 hO
    unfold B_impl_ClassOfColour_5
    have h' := h0.keep hb
    refine ⟨fun hlt => ?_, fun hge => ?_⟩
    · have hlt := dec_t hlt
      simp only at hlt
      have hs := posOf_succ c l i.toNat
      have hs0 := hb.size
      refine atI h' i0 hlt ⟨fun he => ?_, fun hne => ?_⟩
      · have he := eq_t he
        simp only
        rw [wrap_small (by omega) (by omega)]
        refine appI hO (by have := posOf_len c l i.toNat; omega) fun v' w2 b2 o m hb2 => ?_
        refine hN _ _ ⟨by simp; omega, by simp; omega, hb.trans ((m.below (B := w.heap.size) (by omega) (by simp; omega)).mono (by omega)), b2, by omega, ?_⟩ (by simp; omega)
        simp only
        rw [show (i + 1).toNat = i.toNat + 1 from by omega, hs, if_pos he, show ((i.toNat : Int) + 1) = i + 1 from by omega]
        exact o
      · have hne := eq_f hne
        simp only
        rw [wrap_small (by omega) (by omega)]
        refine hN _ _ ⟨by simp; omega, by simp; omega, hb, b', hb', ?_⟩ (by simp; omega)
        simp only
        rw [show (i + 1).toNat = i.toNat + 1 from by omega, hs, if_neg hne, List.append_nil]
        exact hO
    · have hge := dec_f hge
      simp only at hge
      intro _
      have : i = l.length := by omega
      subst this
      have := hK w' v hb
      rw [classOf, if_pos ⟨hp, hy⟩] at this
      exact this (own_my (by simpa using hO) (by have := posOf_len c l l.length; show (posOf c l l.length).length ≤ _; omega) hb' hO.lt)
  · rw [decide_eq_false hp]
    exact ⟨fun _ => no (fun hh => hp hh.1) _ hw0, fun h => Bool.noConfusion h⟩

end Go.Proofs.Ytlbhpbaeokgmaaa

/- The reading of impl_faultsAt, and its contract. No condition. -/
namespace Go.Proofs.Ytlbhpbaeokgmaaa
open Go Go.RowKit Eng Mem
set_option linter.unusedVariables false
set_option maxRecDepth 100000
def B_impl_faultsAt_1 (part0 : Value) (kind1 : Int) (z2 : Int) (with3 : Value) (y8 : Int) (N : (Value × Int × Int × Value) → Int → World → Prop) (D0 : (Unit) → World → Prop) (w : World) : Prop :=
  (((decide (y8 < z2)) = true → (((kind1 == (2 : Int)) = true → (∀ w_1, Drew w w_1 → (((decide ((IntKind.i64.wrap ((IntKind.i64.wrap ((2 : Int) * y8)) - z2)) < (1 : Int))) = true → N ((part0 : Value), kind1, z2, (with3 : Value)) (IntKind.i64.wrap (y8 + (1 : Int))) w_1) ∧ ((decide ((IntKind.i64.wrap ((IntKind.i64.wrap ((2 : Int) * y8)) - z2)) < (1 : Int))) = false → (((decide ((IntKind.i64.wrap ((IntKind.i64.wrap ((2 : Int) * y8)) - z2)) > y8)) = true → N ((part0 : Value), kind1, z2, (with3 : Value)) (IntKind.i64.wrap (y8 + (1 : Int))) w_1) ∧ ((decide ((IntKind.i64.wrap ((IntKind.i64.wrap ((2 : Int) * y8)) - z2)) > y8)) = false → ((((IntKind.i64.wrap ((IntKind.i64.wrap ((2 : Int) * y8)) - z2)) == y8) = true → (((kind1 != (0 : Int)) = true → N ((part0 : Value), kind1, z2, (with3 : Value)) (IntKind.i64.wrap (y8 + (1 : Int))) w_1) ∧ ((kind1 != (0 : Int)) = false → (QAll Try.prog (Instr.indexAt 24 part0 (.int .i64 (IntKind.i64.wrap ((IntKind.i64.wrap ((IntKind.i64.wrap ((2 : Int) * y8)) - z2)) - (1 : Int))))) .any fun (x44_2 : Value) => (QSub Try.prog (Instr.loadAt 2 x44_2) w_1 (.int .i64) fun (x45_3 : Int) => (QAll Try.prog (Instr.indexAt 24 part0 (.int .i64 (IntKind.i64.wrap (z2 - (1 : Int))))) .any fun (x49_4 : Value) => (QSub Try.prog (Instr.loadAt 2 x49_4) w_1 (.int .i64) fun (x50_5 : Int) => (((x45_3 != x50_5) = true → N ((part0 : Value), kind1, z2, (with3 : Value)) (IntKind.i64.wrap (y8 + (1 : Int))) w_1) ∧ ((x45_3 != x50_5) = false → (QAll Try.prog (Instr.indexAt 24 part0 (.int .i64 (IntKind.i64.wrap (y8 - (1 : Int))))) .any fun (x57_6 : Value) => (QSub Try.prog (Instr.loadAt 2 x57_6) w_1 (.int .i64) fun (x58_7 : Int) => (QAll Try.prog (Instr.indexAt 24 part0 (.int .i64 (IntKind.i64.wrap (z2 - (1 : Int))))) .any fun (x62_8 : Value) => (QSub Try.prog (Instr.loadAt 2 x62_8) w_1 (.int .i64) fun (x63_9 : Int) => (((x58_7 != x63_9) = true → N ((part0 : Value), kind1, z2, (with3 : Value)) (IntKind.i64.wrap (y8 + (1 : Int))) w_1) ∧ ((x58_7 != x63_9) = false → (callV Try.prog with3 #[(.int .i64 (IntKind.i64.wrap ((IntKind.i64.wrap ((2 : Int) * y8)) - z2))), (.int .i64 y8)] w_1 .unit fun (x69_11 : Unit) w_10 => N ((part0 : Value), kind1, z2, (with3 : Value)) (IntKind.i64.wrap (y8 + (1 : Int))) w_10)))))))))))))))) ∧ (((IntKind.i64.wrap ((IntKind.i64.wrap ((2 : Int) * y8)) - z2)) == y8) = false → (QAll Try.prog (Instr.indexAt 24 part0 (.int .i64 (IntKind.i64.wrap ((IntKind.i64.wrap ((IntKind.i64.wrap ((2 : Int) * y8)) - z2)) - (1 : Int))))) .any fun (x44_12 : Value) => (QSub Try.prog (Instr.loadAt 2 x44_12) w_1 (.int .i64) fun (x45_13 : Int) => (QAll Try.prog (Instr.indexAt 24 part0 (.int .i64 (IntKind.i64.wrap (z2 - (1 : Int))))) .any fun (x49_14 : Value) => (QSub Try.prog (Instr.loadAt 2 x49_14) w_1 (.int .i64) fun (x50_15 : Int) => (((x45_13 != x50_15) = true → N ((part0 : Value), kind1, z2, (with3 : Value)) (IntKind.i64.wrap (y8 + (1 : Int))) w_1) ∧ ((x45_13 != x50_15) = false → (QAll Try.prog (Instr.indexAt 24 part0 (.int .i64 (IntKind.i64.wrap (y8 - (1 : Int))))) .any fun (x57_16 : Value) => (QSub Try.prog (Instr.loadAt 2 x57_16) w_1 (.int .i64) fun (x58_17 : Int) => (QAll Try.prog (Instr.indexAt 24 part0 (.int .i64 (IntKind.i64.wrap (z2 - (1 : Int))))) .any fun (x62_18 : Value) => (QSub Try.prog (Instr.loadAt 2 x62_18) w_1 (.int .i64) fun (x63_19 : Int) => (((x58_17 != x63_19) = true → N ((part0 : Value), kind1, z2, (with3 : Value)) (IntKind.i64.wrap (y8 + (1 : Int))) w_1) ∧ ((x58_17 != x63_19) = false → (callV Try.prog with3 #[(.int .i64 (IntKind.i64.wrap ((IntKind.i64.wrap ((2 : Int) * y8)) - z2))), (.int .i64 y8)] w_1 .unit fun (x69_21 : Unit) w_20 => N ((part0 : Value), kind1, z2, (with3 : Value)) (IntKind.i64.wrap (y8 + (1 : Int))) w_20))))))))))))))))))))) ∧ ((kind1 == (2 : Int)) = false → (∀ w_22, Drew w w_22 → (((decide ((IntKind.i64.wrap (z2 - y8)) < (1 : Int))) = true → N ((part0 : Value), kind1, z2, (with3 : Value)) (IntKind.i64.wrap (y8 + (1 : Int))) w_22) ∧ ((decide ((IntKind.i64.wrap (z2 - y8)) < (1 : Int))) = false → (((decide ((IntKind.i64.wrap (z2 - y8)) > y8)) = true → N ((part0 : Value), kind1, z2, (with3 : Value)) (IntKind.i64.wrap (y8 + (1 : Int))) w_22) ∧ ((decide ((IntKind.i64.wrap (z2 - y8)) > y8)) = false → ((((IntKind.i64.wrap (z2 - y8)) == y8) = true → (((kind1 != (0 : Int)) = true → N ((part0 : Value), kind1, z2, (with3 : Value)) (IntKind.i64.wrap (y8 + (1 : Int))) w_22) ∧ ((kind1 != (0 : Int)) = false → (QAll Try.prog (Instr.indexAt 24 part0 (.int .i64 (IntKind.i64.wrap ((IntKind.i64.wrap (z2 - y8)) - (1 : Int))))) .any fun (x44_23 : Value) => (QSub Try.prog (Instr.loadAt 2 x44_23) w_22 (.int .i64) fun (x45_24 : Int) => (QAll Try.prog (Instr.indexAt 24 part0 (.int .i64 (IntKind.i64.wrap (z2 - (1 : Int))))) .any fun (x49_25 : Value) => (QSub Try.prog (Instr.loadAt 2 x49_25) w_22 (.int .i64) fun (x50_26 : Int) => (((x45_24 != x50_26) = true → N ((part0 : Value), kind1, z2, (with3 : Value)) (IntKind.i64.wrap (y8 + (1 : Int))) w_22) ∧ ((x45_24 != x50_26) = false → (QAll Try.prog (Instr.indexAt 24 part0 (.int .i64 (IntKind.i64.wrap (y8 - (1 : Int))))) .any fun (x57_27 : Value) => (QSub Try.prog (Instr.loadAt 2 x57_27) w_22 (.int .i64) fun (x58_28 : Int) => (QAll Try.prog (Instr.indexAt 24 part0 (.int .i64 (IntKind.i64.wrap (z2 - (1 : Int))))) .any fun (x62_29 : Value) => (QSub Try.prog (Instr.loadAt 2 x62_29) w_22 (.int .i64) fun (x63_30 : Int) => (((x58_28 != x63_30) = true → N ((part0 : Value), kind1, z2, (with3 : Value)) (IntKind.i64.wrap (y8 + (1 : Int))) w_22) ∧ ((x58_28 != x63_30) = false → (callV Try.prog with3 #[(.int .i64 (IntKind.i64.wrap (z2 - y8))), (.int .i64 y8)] w_22 .unit fun (x69_32 : Unit) w_31 => N ((part0 : Value), kind1, z2, (with3 : Value)) (IntKind.i64.wrap (y8 + (1 : Int))) w_31)))))))))))))))) ∧ (((IntKind.i64.wrap (z2 - y8)) == y8) = false → (QAll Try.prog (Instr.indexAt 24 part0 (.int .i64 (IntKind.i64.wrap ((IntKind.i64.wrap (z2 - y8)) - (1 : Int))))) .any fun (x44_33 : Value) => (QSub Try.prog (Instr.loadAt 2 x44_33) w_22 (.int .i64) fun (x45_34 : Int) => (QAll Try.prog (Instr.indexAt 24 part0 (.int .i64 (IntKind.i64.wrap (z2 - (1 : Int))))) .any fun (x49_35 : Value) => (QSub Try.prog (Instr.loadAt 2 x49_35) w_22 (.int .i64) fun (x50_36 : Int) => (((x45_34 != x50_36) = true → N ((part0 : Value), kind1, z2, (with3 : Value)) (IntKind.i64.wrap (y8 + (1 : Int))) w_22) ∧ ((x45_34 != x50_36) = false → (QAll Try.prog (Instr.indexAt 24 part0 (.int .i64 (IntKind.i64.wrap (y8 - (1 : Int))))) .any fun (x57_37 : Value) => (QSub Try.prog (Instr.loadAt 2 x57_37) w_22 (.int .i64) fun (x58_38 : Int) => (QAll Try.prog (Instr.indexAt 24 part0 (.int .i64 (IntKind.i64.wrap (z2 - (1 : Int))))) .any fun (x62_39 : Value) => (QSub Try.prog (Instr.loadAt 2 x62_39) w_22 (.int .i64) fun (x63_40 : Int) => (((x58_38 != x63_40) = true → N ((part0 : Value), kind1, z2, (with3 : Value)) (IntKind.i64.wrap (y8 + (1 : Int))) w_22) ∧ ((x58_38 != x63_40) = false → (callV Try.prog with3 #[(.int .i64 (IntKind.i64.wrap (z2 - y8))), (.int .i64 y8)] w_22 .unit fun (x69_42 : Unit) w_41 => N ((part0 : Value), kind1, z2, (with3 : Value)) (IntKind.i64.wrap (y8 + (1 : Int))) w_41))))))))))))))))))))))) ∧ ((decide (y8 < z2)) = false → D0 () w))

abbrev L_impl_faultsAt_1_e0 : List Slot := [.junk, .junk, .junk, .junk, .junk, .junk, .junk, .junk, .junk, .junk, .junk, .junk, .junk, .junk, .junk, .junk, .junk, .junk, .junk, .junk, .junk, .junk, .junk, .junk, .junk, .junk, .junk, .junk, .junk, .junk, .junk, .junk, .junk, .junk, .junk, .junk, .junk, .junk, .junk, .junk, .junk, .junk, .junk, .junk, .junk, .junk, .junk, .junk, .junk, .junk, .junk, .junk, .junk, .junk, .junk, .junk, .junk, .junk, .junk, .junk, .junk, .junk, .junk, .junk, .junk, .junk, .junk, .junk, .junk, .junk]

abbrev L_impl_faultsAt_1_sp : List Slot := [.k .any, .k (.int .i64), .k (.int .i64), .k .any, .junk, .junk, .junk, .junk, .k (.int .i64), .junk, .junk, .junk, .junk, .junk, .junk, .junk, .junk, .junk, .junk, .junk, .junk, .junk, .junk, .junk, .junk, .junk, .junk, .junk, .junk, .junk, .junk, .junk, .junk, .junk, .junk, .junk, .junk, .junk, .junk, .junk, .junk, .junk, .junk, .junk, .junk, .junk, .junk, .junk, .junk, .junk, .junk, .junk, .junk, .junk, .junk, .junk, .junk, .junk, .junk, .junk, .junk, .junk, .junk, .junk, .junk, .junk, .junk, .junk, .junk, .junk]
abbrev L_impl_faultsAt_1_ex : List (Nat × List Slot) := [(0, L_impl_faultsAt_1_e0)]
abbrev L_impl_faultsAt_1_rt : List Slot := [.junk, .junk, .junk, .junk, .junk, .junk, .junk, .junk, .junk, .junk, .junk, .junk, .junk, .junk, .junk, .junk, .junk, .junk, .junk, .junk, .junk, .junk, .junk, .junk, .junk, .junk, .junk, .junk, .junk, .junk, .junk, .junk, .junk, .junk, .junk, .junk, .junk, .junk, .junk, .junk, .junk, .junk, .junk, .junk, .junk, .junk, .junk, .junk, .junk, .junk, .junk, .junk, .junk, .junk, .junk, .junk, .junk, .junk, .junk, .junk, .junk, .junk, .junk, .junk, .junk, .junk, .junk, .junk, .junk, .junk]

def L_impl_faultsAt_1_b (Φ : Post) (u : (Value × Int × Int × Value)) (N : (Value × Int × Int × Value) → Int → World → Prop) (s : Int) (w : World) : Prop :=
  B_impl_faultsAt_1 u.1 u.2.1 u.2.2.1 u.2.2.2 s N (fun v w => ∀ j : Nat → Value, Φ (.exit 0) (mkT j 0 L_impl_faultsAt_1_e0 v) w) w

theorem L_impl_faultsAt_1_eq (j : Nat → Value) (u : (Value × Int × Int × Value)) (s : Int) (N : (Value × Int × Int × Value) → Int → World → Prop) (D0 : (Unit) → World → Prop) (R : (Unit) → World → Prop) (w : World) :
    W Try.prog ty (fun _ _ _ _ => False) (loopAt Try.f70 1) (loopPost L_impl_faultsAt_1_sp [(0, (⟨L_impl_faultsAt_1_e0, D0⟩ : Door))] ⟨L_impl_faultsAt_1_rt, R⟩ (fun v w => N ((fun v => (v.1, v.2.1, v.2.2.1, v.2.2.2.1)) v) ((fun v => v.2.2.2.2.1) v) w)) (mkT j 0 L_impl_faultsAt_1_sp ((fun u s => (u.1, u.2.1, u.2.2.1, u.2.2.2, s, ())) u s)) w =
    B_impl_faultsAt_1 u.1 u.2.1 u.2.2.1 u.2.2.2 s N D0 w := by
  kernel_rfl

def O_impl_faultsAt_1 : Code → Post → List SV → World → Prop :=
  orc 1 (loopAt Try.f70 1) L_impl_faultsAt_1_sp (fun Φ fr w => LOOP (U := (Value × Int × Int × Value)) (S := Int) ((fun v => (v.1, v.2.1, v.2.2.1, v.2.2.2.1)) (extT L_impl_faultsAt_1_sp fr)) (L_impl_faultsAt_1_b Φ ((fun v => (v.1, v.2.1, v.2.2.1, v.2.2.2.1)) (extT L_impl_faultsAt_1_sp fr))) ((fun v => v.2.2.2.2.1) (extT L_impl_faultsAt_1_sp fr)) w) (fun _ _ _ _ => False)

theorem O_impl_faultsAt_1_ok : Sound Try.prog O_impl_faultsAt_1 :=
  orc_ok (sound_none _) fun Φ fr w hs h => loop_ok (ty := ty) follows (sound_none _) L_impl_faultsAt_1_sp (fun v => (v.1, v.2.1, v.2.2.1, v.2.2.2.1)) (fun v => v.2.2.2.2.1) (fun u s => (u.1, u.2.1, u.2.2.1, u.2.2.2, s, ())) (fun _ => rfl) L_impl_faultsAt_1_ex L_impl_faultsAt_1_rt (body := L_impl_faultsAt_1_b Φ) (fun j u s w N hb => by
    have e := L_impl_faultsAt_1_eq j u s N (doorOf Φ (.exit 0) L_impl_faultsAt_1_e0).D (doorOf Φ .ret L_impl_faultsAt_1_rt).D w
    exact Eq.mpr e hb) hs h

def V_impl_faultsAt (part0 : Value) (kind1 : Int) (z2 : Int) (with3 : Value) (w : World) (K : Unit → World → Prop) : Prop :=
  (At (loopAt Try.f70 1) (loopAt Try.f70 1) (LOOP (U := (Value × Int × Int × Value)) (S := Int) ((part0 : Value), kind1, z2, (with3 : Value)) (fun N_46 s_47 w_48 => B_impl_faultsAt_1 (part0 : Value) kind1 z2 (with3 : Value) s_47 N_46 (fun (v_43 : (Unit)) w_44 => ∀ _j_45 : Nat → Value, K () w_44) w_48) (1 : Int) w))

theorem eq_impl_faultsAt (part0 : Value) (kind1 : Int) (z2 : Int) (with3 : Value) (w : World) (K : Unit → World → Prop) :
    W Try.prog ty O_impl_faultsAt_1 (bodyOf Try.f70) (fnPost Try.prog Try.f70.results.toList .unit K) (frame0 [part0, (.int .i64 kind1), (.int .i64 z2), with3] 70) w = V_impl_faultsAt part0 kind1 z2 with3 w K := by
  kernel_rfl

theorem body_impl_faultsAt : Try.f70.body = some (bodyOf Try.f70) := by kernel_rfl
theorem name_impl_faultsAt : (Try.f70.name == "runtime.NumGoroutine") = false := by kernel_rfl

theorem walk_impl_faultsAt (part0 : Value) (kind1 : Int) (z2 : Int) (with3 : Value) {w : World} {K : Unit → World → Prop} (h : V_impl_faultsAt part0 kind1 z2 with3 w K) : Fc Try.prog 70 #[part0, (.int .i64 kind1), (.int .i64 z2), with3] w .unit K :=
  fn_ok follows O_impl_faultsAt_1_ok Try.func70 name_impl_faultsAt body_impl_faultsAt Try.ntmps70 [part0, (.int .i64 kind1), (.int .i64 z2), with3] (Eq.mpr (eq_impl_faultsAt part0 kind1 z2 with3 w K) h)

-- uses S8Fault
theorem c_impl_faultsAt {a f : Value} {l : List Int} {kind z : Int} {w : World} {K : Unit → World → Prop} (J : List (Int × Int) → World → Prop) (hl : l.length ≤ 41) (hk : 0 ≤ kind ∧ kind ≤ 2) (z0 : 0 ≤ z) (z1 : z ≤ l.length)
    (hsl : ∀ d w', J d w' → SlI w' a l) (hdr : ∀ d w' w'', J d w' → Drew w' w'' → J d w'')
    (hcall : ∀ (y : Int), 1 ≤ y → y < z → IsF l kind y z → ∀ (w' : World) (K' : Unit → World → Prop), J (fz l kind z (y - 1).toNat) w' → (∀ w'', J (fz l kind z (y - 1).toNat ++ [(xF kind y z, y)]) w'' → K' () w'') → callV Try.prog f #[.int .i64 (xF kind y z), .int .i64 y] w' .unit K')
    (h0 : J [] w) (hK : ∀ w', J (fz l kind z (z - 1).toNat) w' → K () w') : Fc Try.prog F_impl_faultsAt #[a, .int .i64 kind, .int .i64 z, f] w .unit K := by
  refine walk_impl_faultsAt _ _ _ _ ?_
  refine lp (fun y w' => 1 ≤ y ∧ (y ≤ z ∨ y = 1) ∧ J (fz l kind z (y - 1).toNat) w') (fun y _ => (z + 1 - y).toNat) ⟨by omega, by omega, h0⟩ ?_
  rintro y w0 N ⟨y0, y1, hJ⟩ hN
  unfold B_impl_faultsAt_1
  refine ⟨fun hlt => ?_, fun hge => ?_⟩
  · have hlt := dec_t hlt
    refine ⟨fun hk2 w1 hd => ?_, fun hk2 w1 hd => ?_⟩
    · have hk2 := eq_t hk2
      have e : IntKind.i64.wrap (IntKind.i64.wrap (2 * y) - z) = 2 * y - z := by rw [wrap_small (n := 2 * y) (by omega) (by omega), wrap_small (by omega) (by omega)]
      rw [e]
      have hx : 2 * y - z = xF kind y z := by rw [xF, if_pos hk2]
      have hx0 : 2 * y - z ≤ 1000 ∧ -1000 ≤ 2 * y - z := by omega
      generalize 2 * y - z = x at *
      have hj := hdr _ _ _ hJ hd
      have hs := hsl _ _ hj
      have hsucc := fz_succ l kind z (y - 1).toNat
      rw [show (((y - 1).toNat : Int) + 1) = y from by omega] at hsucc
      have skip : ¬ IsF l kind y z → N (a, kind, z, f) (IntKind.i64.wrap (y + 1)) w1 := fun hn => by
        rw [if_neg hn, List.append_nil] at hsucc
        rw [wrap_small (by omega) (by omega)]
        exact hN _ _ ⟨by omega, by omega, by rw [show (y + 1 - 1).toNat = (y - 1).toNat + 1 from by omega, hsucc]; exact hj⟩ (by omega)
      have take : IsF l kind y z → callV Try.prog f #[.int .i64 x, .int .i64 y] w1 .unit fun (_ : Unit) w2 => N (a, kind, z, f) (IntKind.i64.wrap (y + 1)) w2 := fun hi => by
        rw [if_pos hi, ← hx] at hsucc
        have hc := hcall y y0 hlt hi w1 (fun _ w2 => N (a, kind, z, f) (IntKind.i64.wrap (y + 1)) w2) hj
        rw [← hx] at hc
        refine hc fun w2 hj2 => ?_
        rw [wrap_small (by omega) (by omega)]
        exact hN _ _ ⟨by omega, by omega, by rw [show (y + 1 - 1).toNat = (y - 1).toNat + 1 from by omega, hsucc]; exact hj2⟩ (by omega)
      unfold IsF at skip take
      rw [← hx] at skip take
      refine ⟨fun e => skip fun hh => by have := dec_t e; omega, fun e1 => ⟨fun e => skip fun hh => by have := dec_t e; omega, fun e2 => ?_⟩⟩
      have e1 := dec_f e1
      have e2 := dec_f e2
      refine ⟨fun e3 => ⟨fun e => skip fun hh => hh.2.2.1 ⟨by have := ne_t e; omega, eq_t e3⟩, fun e4 => ?_⟩, fun e3 => ?_⟩
      · have hkk : ¬ (kind > 0 ∧ x = y) := fun hh => by have := ne_f e4; omega
        rw [wrap_small (n := x - 1) (by omega) (by omega), wrap_small (n := y - 1) (by omega) (by omega), wrap_small (n := z - 1) (by omega) (by omega)]
        refine atI hs (by omega) (by omega) (atI hs (by omega) (by omega) ⟨fun e => skip fun hh => ne_t e (hh.2.2.2.1.trans hh.2.2.2.2), fun e3 => ?_⟩)
        have e3 := ne_f e3
        refine atI hs (by omega) (by omega) (atI hs (by omega) (by omega) ⟨fun e => skip fun hh => ne_t e hh.2.2.2.2, fun e4 => ?_⟩)
        have e4 := ne_f e4
        exact take ⟨by omega, by omega, hkk, e3.trans e4.symm, e4⟩
      · have hkk : ¬ (kind > 0 ∧ x = y) := fun hh => eq_f e3 hh.2
        rw [wrap_small (n := x - 1) (by omega) (by omega), wrap_small (n := y - 1) (by omega) (by omega), wrap_small (n := z - 1) (by omega) (by omega)]
        refine atI hs (by omega) (by omega) (atI hs (by omega) (by omega) ⟨fun e => skip fun hh => ne_t e (hh.2.2.2.1.trans hh.2.2.2.2), fun e3 => ?_⟩)
        have e3 := ne_f e3
        refine atI hs (by omega) (by omega) (atI hs (by omega) (by omega) ⟨fun e => skip fun hh => ne_t e hh.2.2.2.2, fun e4 => ?_⟩)
        have e4 := ne_f e4
        exact take ⟨by omega, by omega, hkk, e3.trans e4.symm, e4⟩
    · have hk2 := eq_f hk2
      have e : IntKind.i64.wrap (z - y) = z - y := wrap_small (by omega) (by omega)
      rw [e]
      have hx : z - y = xF kind y z := by rw [xF, if_neg hk2]
      have hx0 : z - y ≤ 1000 ∧ -1000 ≤ z - y := by omega
      generalize z - y = x at *
      have hj := hdr _ _ _ hJ hd
      have hs := hsl _ _ hj
      have hsucc := fz_succ l kind z (y - 1).toNat
      rw [show (((y - 1).toNat : Int) + 1) = y from by omega] at hsucc
      have skip : ¬ IsF l kind y z → N (a, kind, z, f) (IntKind.i64.wrap (y + 1)) w1 := fun hn => by
        rw [if_neg hn, List.append_nil] at hsucc
        rw [wrap_small (by omega) (by omega)]
        exact hN _ _ ⟨by omega, by omega, by rw [show (y + 1 - 1).toNat = (y - 1).toNat + 1 from by omega, hsucc]; exact hj⟩ (by omega)
      have take : IsF l kind y z → callV Try.prog f #[.int .i64 x, .int .i64 y] w1 .unit fun (_ : Unit) w2 => N (a, kind, z, f) (IntKind.i64.wrap (y + 1)) w2 := fun hi => by
        rw [if_pos hi, ← hx] at hsucc
        have hc := hcall y y0 hlt hi w1 (fun _ w2 => N (a, kind, z, f) (IntKind.i64.wrap (y + 1)) w2) hj
        rw [← hx] at hc
        refine hc fun w2 hj2 => ?_
        rw [wrap_small (by omega) (by omega)]
        exact hN _ _ ⟨by omega, by omega, by rw [show (y + 1 - 1).toNat = (y - 1).toNat + 1 from by omega, hsucc]; exact hj2⟩ (by omega)
      unfold IsF at skip take
      rw [← hx] at skip take
      refine ⟨fun e => skip fun hh => by have := dec_t e; omega, fun e1 => ⟨fun e => skip fun hh => by have := dec_t e; omega, fun e2 => ?_⟩⟩
      have e1 := dec_f e1
      have e2 := dec_f e2
      refine ⟨fun e3 => ⟨fun e => skip fun hh => hh.2.2.1 ⟨by have := ne_t e; omega, eq_t e3⟩, fun e4 => ?_⟩, fun e3 => ?_⟩
      · have hkk : ¬ (kind > 0 ∧ x = y) := fun hh => by have := ne_f e4; omega
        rw [wrap_small (n := x - 1) (by omega) (by omega), wrap_small (n := y - 1) (by omega) (by omega), wrap_small (n := z - 1) (by omega) (by omega)]
        refine atI hs (by omega) (by omega) (atI hs (by omega) (by omega) ⟨fun e => skip fun hh => ne_t e (hh.2.2.2.1.trans hh.2.2.2.2), fun e3 => ?_⟩)
        have e3 := ne_f e3
        refine atI hs (by omega) (by omega) (atI hs (by omega) (by omega) ⟨fun e => skip fun hh => ne_t e hh.2.2.2.2, fun e4 => ?_⟩)
        have e4 := ne_f e4
        exact take ⟨by omega, by omega, hkk, e3.trans e4.symm, e4⟩
      · have hkk : ¬ (kind > 0 ∧ x = y) := fun hh => eq_f e3 hh.2
        rw [wrap_small (n := x - 1) (by omega) (by omega), wrap_small (n := y - 1) (by omega) (by omega), wrap_small (n := z - 1) (by omega) (by omega)]
        refine atI hs (by omega) (by omega) (atI hs (by omega) (by omega) ⟨fun e => skip fun hh => ne_t e (hh.2.2.2.1.trans hh.2.2.2.2), fun e3 => ?_⟩)
        have e3 := ne_f e3
        refine atI hs (by omega) (by omega) (atI hs (by omega) (by omega) ⟨fun e => skip fun hh => ne_t e hh.2.2.2.2, fun e4 => ?_⟩)
        have e4 := ne_f e4
        exact take ⟨by omega, by omega, hkk, e3.trans e4.symm, e4⟩
  · have hge := dec_f hge
    intro _
    refine hK w0 ?_
    rwa [show (z - 1).toNat = (y - 1).toNat from by omega]

end Go.Proofs.Ytlbhpbaeokgmaaa

/- The reading of impl_faults_1, and its contract. No condition. -/
namespace Go.Proofs.Ytlbhpbaeokgmaaa
open Go Go.RowKit Eng Mem
set_option linter.unusedVariables false
set_option maxRecDepth 100000
def V_impl_faults_1 (x0 : Int) (y1 : Int) (x2 : Value) (x3 : Value) (w : World) (K : Unit → World → Prop) : Prop :=
  (QSub Try.prog (Instr.loadAt 52 x2) w .any fun (x6_1 : Value) => (QSub Try.prog (Instr.loadAt 2 x3) w (.int .i64) fun (x9_2 : Int) => (Pr Try.prog (Instr.buildSlice 24 3 #[(0, (.int .i64 x0)), (1, (.int .i64 y1)), (2, (.int .i64 x9_2))]) w (.one .any) fun (x10_4 : Value) w_3 => (Pr Try.prog (Instr.buildSlice 52 1 #[(0, x10_4)]) w_3 (.one .any) fun (x11_6 : Value) w_5 => (Pr Try.prog (Builtin.append_ #[52, 52] 52 #[x6_1, x11_6]) w_5 (.one .any) fun (x12_8 : Value) w_7 => (PrU Try.prog (Instr.storeAt 52 x2 x12_8) w_7 fun w_9 => K () w_9))))))

theorem eq_impl_faults_1 (x0 : Int) (y1 : Int) (x2 : Value) (x3 : Value) (w : World) (K : Unit → World → Prop) :
    W Try.prog ty (fun _ _ _ _ => False) (bodyOf Try.f71) (fnPost Try.prog Try.f71.results.toList .unit K) (frame0 [(.int .i64 x0), (.int .i64 y1), x2, x3] 13) w = V_impl_faults_1 x0 y1 x2 x3 w K := by
  kernel_rfl

theorem body_impl_faults_1 : Try.f71.body = some (bodyOf Try.f71) := by kernel_rfl
theorem name_impl_faults_1 : (Try.f71.name == "runtime.NumGoroutine") = false := by kernel_rfl

theorem walk_impl_faults_1 (x0 : Int) (y1 : Int) (x2 : Value) (x3 : Value) {w : World} {K : Unit → World → Prop} (h : V_impl_faults_1 x0 y1 x2 x3 w K) : Fc Try.prog 71 #[(.int .i64 x0), (.int .i64 y1), x2, x3] w .unit K :=
  fn_ok follows (sound_none _) Try.func71 name_impl_faults_1 body_impl_faults_1 Try.ntmps71 [(.int .i64 x0), (.int .i64 y1), x2, x3] (Eq.mpr (eq_impl_faults_1 x0 y1 x2 x3 w K) h)

-- uses S8SS
theorem c_impl_faults_1 {B : Nat} {p q : Value} {ls : List (List Int)} {x y z : Int} {w : World} {K : Unit → World → Prop} (h : FS B w p q ls z) (hl : ls.length ≤ 1099511627776) (hB : B ≤ w.heap.size)
    (hK : ∀ w', Below B w w' → FS B w' p q (ls ++ [[x, y, z]]) z → K () w') : Fc Try.prog F_impl_faults_1 #[.int .i64 x, .int .i64 y, p, q] w .unit K := by
  have hz := h.z
  obtain ⟨bx, bz, v, b, rfl, rfl, h1, h2, h3, h4, h5, h6⟩ := h
  refine walk_impl_faults_1 _ _ _ _ (ld (k := .any) (x := v) y1SSI (row_all (cs := [_]) h4) (ld (k := .int .i64) yI hz (mk3 ySI rfl rfl rfl fun c w1 n1 ho => ?_)))
  have e1 := n1.here
  have h6' := h6.keep n1.below
  refine appSS h6' (l := [x, y, z]) ho (by omega) hl fun v' w2 b' h2' hone m hb => ?_
  have hs1 := n1.below.size
  obtain ⟨_, hbb⟩ := h6'.blk
  have h4w1 := below_at n1.below h4 (at_lt h4)
  have h4' := m.at_ h4w1 (by simp; exact blk_ne h4w1 hbb (by decide))
  have h5w1 := below_at n1.below h5 (at_lt h5)
  have h5' := m.at_ h5w1 (by simp; exact blk_ne h5w1 hbb (by decide))
  refine st y1SSI h4' (by simp) hone fun w3 m3 s3 h3' => ?_
  obtain ⟨_, hbb2⟩ := h2'.blk
  refine hK w3 ((n1.below.mono hB).trans ((m.below (by omega) (by simp; omega)).trans (m3.below (by have := m.size; omega) (by simp; omega)))) ⟨bx, bz, v', b', rfl, rfl, h1, by omega, hone, h3', m3.at_ h5' (by simp; exact blk_ne h5' h4' (by decide)), h2'.mod m3 (by simp; exact blk_ne hbb2 h4' (by decide)) fun k hk l' hl' => ?_⟩
  simp at hk
  subst hk
  exact blk_ne hl' h4' (by decide) rfl

end Go.Proofs.Ytlbhpbaeokgmaaa

/- The reading of impl_faults, and its contract. No condition. -/
namespace Go.Proofs.Ytlbhpbaeokgmaaa
open Go Go.RowKit Eng Mem
set_option linter.unusedVariables false
set_option maxRecDepth 100000
def B_impl_faults_3 (part0 : Value) (kind1 : Int) (out5 : Value) (z6 : Value) (N : (Value × Int × Value) → Value → World → Prop) (D0 : (Value × Unit) → World → Prop) (w : World) : Prop :=
  (∀ w_11, Drew w w_11 → (QSub Try.prog (Instr.loadAt 2 z6) w_11 (.int .i64) fun (x8_12 : Int) => (Fc Try.prog 52 #[part0] w_11 (.one (.int .i64)) fun (x10_14 : Int) w_13 => (Keeps w_11 w_13 ((((decide (x8_12 ≤ x10_14)) = true → (QSub Try.prog (Instr.loadAt 2 z6) w_13 (.int .i64) fun (x16_15 : Int) => (Fc Try.prog 70 #[part0, (.int .i64 kind1), (.int .i64 x16_15), (.func (.func 71) #[] #[out5, z6])] w_13 .unit fun (x18_17 : Unit) w_16 => (QSub Try.prog (Instr.loadAt 2 z6) w_16 (.int .i64) fun (x19_18 : Int) => (Pr Try.prog (Instr.alloc 2 true (.tuple #[])) w_16 (.one .any) fun (z6_20 : Value) w_19 => (PrU Try.prog (Instr.storeAt 2 z6_20 (.int .i64 x19_18)) w_19 fun w_21 => (QSub Try.prog (Instr.loadAt 2 z6_20) w_21 (.int .i64) fun (x12_23 : Int) => (PrU Try.prog (Instr.storeAt 2 z6_20 (.int .i64 (IntKind.i64.wrap (x12_23 + (1 : Int))))) w_21 fun w_24 => N ((part0 : Value), kind1, (out5 : Value)) (z6_20 : Value) w_24)))))))) ∧ ((decide (x8_12 ≤ x10_14)) = false → D0 ((out5 : Value), ()) w_13)))))))

abbrev L_impl_faults_3_e0 : List Slot := [.junk, .junk, .junk, .junk, .junk, .k .any, .junk, .junk, .junk, .junk, .junk, .junk, .junk, .junk, .junk, .junk, .junk, .junk, .junk, .junk, .junk]

abbrev L_impl_faults_3_sp : List Slot := [.k .any, .k (.int .i64), .junk, .junk, .junk, .k .any, .k .any, .junk, .junk, .junk, .junk, .junk, .junk, .junk, .junk, .junk, .junk, .junk, .junk, .junk, .junk]
abbrev L_impl_faults_3_ex : List (Nat × List Slot) := [(0, L_impl_faults_3_e0)]
abbrev L_impl_faults_3_rt : List Slot := [.junk, .junk, .junk, .junk, .junk, .junk, .junk, .junk, .junk, .junk, .junk, .junk, .junk, .junk, .junk, .junk, .junk, .junk, .junk, .junk, .junk]

def L_impl_faults_3_b (Φ : Post) (u : (Value × Int × Value)) (N : (Value × Int × Value) → Value → World → Prop) (s : Value) (w : World) : Prop :=
  B_impl_faults_3 u.1 u.2.1 u.2.2 s N (fun v w => ∀ j : Nat → Value, Φ (.exit 0) (mkT j 0 L_impl_faults_3_e0 v) w) w

theorem L_impl_faults_3_eq (j : Nat → Value) (u : (Value × Int × Value)) (s : Value) (N : (Value × Int × Value) → Value → World → Prop) (D0 : (Value × Unit) → World → Prop) (R : (Unit) → World → Prop) (w : World) :
    W Try.prog ty (fun _ _ _ _ => False) (loopAt Try.f37 3) (loopPost L_impl_faults_3_sp [(0, (⟨L_impl_faults_3_e0, D0⟩ : Door))] ⟨L_impl_faults_3_rt, R⟩ (fun v w => N ((fun v => (v.1, v.2.1, v.2.2.1)) v) ((fun v => v.2.2.2.1) v) w)) (mkT j 0 L_impl_faults_3_sp ((fun u s => (u.1, u.2.1, u.2.2, s, ())) u s)) w =
    B_impl_faults_3 u.1 u.2.1 u.2.2 s N D0 w := by
  kernel_rfl

def O_impl_faults_1 : Code → Post → List SV → World → Prop :=
  orc 3 (loopAt Try.f37 3) L_impl_faults_3_sp (fun Φ fr w => LOOP (U := (Value × Int × Value)) (S := Value) ((fun v => (v.1, v.2.1, v.2.2.1)) (extT L_impl_faults_3_sp fr)) (L_impl_faults_3_b Φ ((fun v => (v.1, v.2.1, v.2.2.1)) (extT L_impl_faults_3_sp fr))) ((fun v => v.2.2.2.1) (extT L_impl_faults_3_sp fr)) w) (fun _ _ _ _ => False)

theorem O_impl_faults_1_ok : Sound Try.prog O_impl_faults_1 :=
  orc_ok (sound_none _) fun Φ fr w hs h => loop_ok (ty := ty) follows (sound_none _) L_impl_faults_3_sp (fun v => (v.1, v.2.1, v.2.2.1)) (fun v => v.2.2.2.1) (fun u s => (u.1, u.2.1, u.2.2, s, ())) (fun _ => rfl) L_impl_faults_3_ex L_impl_faults_3_rt (body := L_impl_faults_3_b Φ) (fun j u s w N hb => by
    have e := L_impl_faults_3_eq j u s N (doorOf Φ (.exit 0) L_impl_faults_3_e0).D (doorOf Φ .ret L_impl_faults_3_rt).D w
    exact Eq.mpr e hb) hs h

def V_impl_faults (part0 : Value) (kind1 : Int) (w : World) (K : Value → World → Prop) : Prop :=
  (Pr Try.prog (Instr.buildSlice 52 0 #[]) w (.one .any) fun (x7_2 : Value) w_1 => (Pr Try.prog (Instr.alloc 52 true (.tuple #[])) w_1 (.one .any) fun (out5_4 : Value) w_3 => (PrU Try.prog (Instr.storeAt 52 out5_4 x7_2) w_3 fun w_5 => (Pr Try.prog (Instr.alloc 2 true (.tuple #[])) w_5 (.one .any) fun (z6_8 : Value) w_7 => (PrU Try.prog (Instr.storeAt 2 z6_8 (.int .i64 (1 : Int))) w_7 fun w_9 => (At (loopAt Try.f37 3) (loopAt Try.f37 3) (LOOP (U := (Value × Int × Value)) (S := Value) ((part0 : Value), kind1, (out5_4 : Value)) (fun N_30 s_31 w_32 => B_impl_faults_3 (part0 : Value) kind1 (out5_4 : Value) s_31 N_30 (fun (v_26 : (Value × Unit)) w_27 => ∀ _j_28 : Nat → Value, (QSub Try.prog (Instr.loadAt 52 v_26.1) w_27 .any fun (x20_29 : Value) => K (x20_29 : Value) w_27)) w_32) (z6_8 : Value) w_9)))))))

theorem eq_impl_faults (part0 : Value) (kind1 : Int) (w : World) (K : Value → World → Prop) :
    W Try.prog ty O_impl_faults_1 (bodyOf Try.f37) (fnPost Try.prog Try.f37.results.toList (.one .any) K) (frame0 [part0, (.int .i64 kind1)] 21) w = V_impl_faults part0 kind1 w K := by
  kernel_rfl

theorem body_impl_faults : Try.f37.body = some (bodyOf Try.f37) := by kernel_rfl
theorem name_impl_faults : (Try.f37.name == "runtime.NumGoroutine") = false := by kernel_rfl

theorem walk_impl_faults (part0 : Value) (kind1 : Int) {w : World} {K : Value → World → Prop} (h : V_impl_faults part0 kind1 w K) : Fc Try.prog 37 #[part0, (.int .i64 kind1)] w (.one .any) K :=
  fn_ok follows O_impl_faults_1_ok Try.func37 name_impl_faults body_impl_faults Try.ntmps37 [part0, (.int .i64 kind1)] (Eq.mpr (eq_impl_faults part0 kind1 w K) h)

-- uses S8SS
theorem c_impl_faults {a : Value} {l : List Int} {kind : Int} {w : World} {K : Value → World → Prop} (h : SlI w a l) (hl : l.length ≤ 41) (hk : 0 ≤ kind ∧ kind ≤ 2)
    (hK : ∀ w' v b, Below w.heap.size w w' → w.heap.size ≤ b → MySS w.heap.size b w' v (faR l kind 0 l.length) → K v w') : Fc Try.prog F_impl_faults #[a, .int .i64 kind] w (.one .any) K := by
  refine walk_impl_faults _ _ (nilSS fun b0 v0 w1 hb0 hbel hone h0 => alloc1 y1SSI fun b w2 n2 => st y1SSI n2.at_ (by simp) hone fun w3 m3 s3 h3 => alloc1 yI fun bz w4 n4 => st yI n4.at_ (by simp) rfl fun w5 m5 s5 h5 => ?_)
  have e2 := n2.here; have s2 := n2.size; have e4 := n4.here; have s4 := n4.size; have hs1 := hbel.size
  have b13 : Below w1.heap.size w1 w3 := n2.below.trans (m3.below (by omega) (by simp; omega))
  have b35 : Below w3.heap.size w3 w5 := n4.below.trans (m5.below (by omega) (by simp; omega))
  have hb5 : Below w.heap.size w w5 := (hbel.trans (b13.mono hs1)).trans (b35.mono (by omega))
  have hF : FS w.heap.size w5 (ptr b 0) (ptr bz 0) [] 1 := ⟨b, bz, v0, b0, rfl, rfl, by omega, hb0, hone, below_at b35 h3 (at_lt h3), h5, (h0.keep b13).keep b35⟩
  refine lp (fun q w' => ∃ z : Int, 1 ≤ z ∧ z ≤ l.length + 1 ∧ Below w.heap.size w w' ∧ FS w.heap.size w' (ptr b 0) q (faR l kind 0 (z - 1).toNat) z) (fun q w' => match (match q with | .pointer (some x) => w'.cell? x | _ => none) with | some (.int _ z) => (l.length + 1 - z).toNat | _ => 0) ⟨1, by omega, by omega, hb5, by rw [show ((1 : Int) - 1).toNat = 0 from by decide]; exact hF⟩ ?_
  rintro q w6 N ⟨z, z0, z1, hb6, hF⟩ hN
  have hμ : ∀ (q : Value) (w : World) (z : Int), Cell w q (.int .i64 z) → (match (match q with | .pointer (some x) => w.cell? x | _ => none) with | some (.int _ z) => (l.length + 1 - z).toNat | _ => 0) = (l.length + 1 - z).toNat := fun q w z hc => by
    obtain ⟨b, off, cs, e, fz, rfl, ha, hr⟩ := hc
    have h0 := hr 0 (by simp)
    simp only [Nat.add_zero, List.getElem?_cons_zero] at h0
    simp [World.cell?, ha, h0]
  rw [hμ _ _ _ hF.z] at hN
  unfold B_impl_faults_3
  intro w7 hd
  have hb7 := hd.below w6.heap.size
  have hF7 := hF.keep hb7
  refine ld (k := .int .i64) yI hF7.z (c_impl_sizeS ((h.keep hb6).keep hb7) ⟨Below.refl _ _, fun hle => ?_, fun hgt => ?_⟩)
  · have hle := dec_t hle
    refine ld (k := .int .i64) yI hF7.z ?_
    have hb67 := hb6.trans (hb7.mono hb6.size)
    have hfl := faR_len l kind (z - 1).toNat (by omega)
    refine c_impl_faultsAt (fun d w' => Below w.heap.size w w' ∧ FS w.heap.size w' (ptr b 0) q (faR l kind 0 (z - 1).toNat ++ d.map fun p => [p.1, p.2, z]) z) hl hk (by omega) hle (fun d w' hj => h.keep hj.1) (fun d w' w'' hj hd => ⟨hj.1.trans (hd.below _), hj.2.keep (hd.below _)⟩) (fun y y0 y1 hi w' K' hj hk' => cv rfl ?_) ⟨hb67, by simpa using hF7⟩ fun w8 hj => ?_
    · have := fz_len l kind z (y - 1).toNat
      refine c_impl_faults_1 hj.2 (by rw [List.length_append, List.length_map]; omega) hj.1.size fun w'' hb'' hF'' => hk' w'' ⟨hj.1.trans hb'', ?_⟩
      rw [List.map_append, ← List.append_assoc]
      exact hF''
    · obtain ⟨hb8, hF8⟩ := hj
      refine ld (k := .int .i64) yI hF8.z (alloc1 yI fun b9 w9 n9 => st yI n9.at_ (by simp) rfl fun w10 m10 s10 h10 => ld (k := .int .i64) yI (row_all (cs := [_]) h10) (st yI h10 (by simp) rfl fun w11 m11 s11 h11 => ?_))
      have e9 := n9.here; have s9 := n9.size
      have b811 : Below w8.heap.size w8 w11 := (n9.below.trans (m10.below (by omega) (by simp; omega))).trans (m11.below (by omega) (by simp; omega))
      rw [wrap_small (by omega) (by omega)] at h11
      have hstep := faR_succ l kind 0 (z - 1).toNat
      rw [show ((0 + (z - 1).toNat : Nat) : Int) + 1 = z from by omega, show 0 + (z - 1).toNat = (z - 1).toNat from by omega] at hstep
      have hF11 := (hF8.keep b811).turn (b' := b9) (z' := z + 1) (by simpa using h11)
      refine hN _ _ ⟨z + 1, by omega, by omega, hb8.trans (b811.mono hb8.size), ?_⟩ ?_
      · rw [show (z + 1 - 1).toNat = (z - 1).toNat + 1 from by omega, hstep]
        exact hF11
      · rw [hμ _ _ _ hF11.z]
        omega
  · have hgt := dec_f hgt
    have : z = l.length + 1 := by omega
    subst this
    intro _
    obtain ⟨x, bz', v, b', hp, hq, h1, h2, h3', h4, h5', h6⟩ := hF7
    injection hp with hp; injection hp with hp; injection hp with hp
    subst hp
    refine ld (k := .any) y1SSI (row_all (cs := [_]) h4) ?_
    rw [show ((l.length : Int) + 1 - 1).toNat = l.length from by omega] at h6
    exact hK w7 v b' (hb6.trans (hb7.mono hb6.size)) h2 h6

end Go.Proofs.Ytlbhpbaeokgmaaa

/- The reading of impl_goesOn_1, and its contract. No condition. -/
namespace Go.Proofs.Ytlbhpbaeokgmaaa
open Go Go.RowKit Eng Mem
set_option linter.unusedVariables false
set_option maxRecDepth 100000
def V_impl_goesOn_1 (x0 : Int) (y1 : Int) (x2 : Value) (w : World) (K : Unit → World → Prop) : Prop :=
  (PrU Try.prog (Instr.storeAt 4 x2 (.bool false)) w fun w_1 => K () w_1)

theorem eq_impl_goesOn_1 (x0 : Int) (y1 : Int) (x2 : Value) (w : World) (K : Unit → World → Prop) :
    W Try.prog ty (fun _ _ _ _ => False) (bodyOf Try.f73) (fnPost Try.prog Try.f73.results.toList .unit K) (frame0 [(.int .i64 x0), (.int .i64 y1), x2] 5) w = V_impl_goesOn_1 x0 y1 x2 w K := by
  kernel_rfl

theorem body_impl_goesOn_1 : Try.f73.body = some (bodyOf Try.f73) := by kernel_rfl
theorem name_impl_goesOn_1 : (Try.f73.name == "runtime.NumGoroutine") = false := by kernel_rfl

theorem walk_impl_goesOn_1 (x0 : Int) (y1 : Int) (x2 : Value) {w : World} {K : Unit → World → Prop} (h : V_impl_goesOn_1 x0 y1 x2 w K) : Fc Try.prog 73 #[(.int .i64 x0), (.int .i64 y1), x2] w .unit K :=
  fn_ok follows (sound_none _) Try.func73 name_impl_goesOn_1 body_impl_goesOn_1 Try.ntmps73 [(.int .i64 x0), (.int .i64 y1), x2] (Eq.mpr (eq_impl_goesOn_1 x0 y1 x2 w K) h)

-- uses S1Col
theorem c_impl_goesOn_1 {b e : Nat} {v : Value} {x y : Int} {w : World} {K : Unit → World → Prop} (h : Blk w b [v] e) (hK : ∀ w', Mod [b] w w' → Blk w' b [.bool false] e → K () w') : Fc Try.prog F_impl_goesOn_1 #[.int .i64 x, .int .i64 y, ptr b 0] w .unit K :=
  walk_impl_goesOn_1 _ _ _ (st yb h (by simp) rfl fun w' m _ hb => hK w' m hb)

end Go.Proofs.Ytlbhpbaeokgmaaa

/- The reading of impl_goesOn, and its contract. No condition. -/
namespace Go.Proofs.Ytlbhpbaeokgmaaa
open Go Go.RowKit Eng Mem
set_option linter.unusedVariables false
set_option maxRecDepth 100000
def V_impl_goesOn (part0 : Value) (kind1 : Int) (w : World) (K : Bool → World → Prop) : Prop :=
  (Pr Try.prog (Instr.alloc 4 true (.tuple #[])) w (.one .any) fun (fine5_2 : Value) w_1 => (PrU Try.prog (Instr.storeAt 4 fine5_2 (.bool true)) w_1 fun w_3 => (Fc Try.prog 52 #[part0] w_3 (.one (.int .i64)) fun (x9_6 : Int) w_5 => (Fc Try.prog 70 #[part0, (.int .i64 kind1), (.int .i64 x9_6), (.func (.func 73) #[] #[fine5_2])] w_5 .unit fun (x11_8 : Unit) w_7 => (QSub Try.prog (Instr.loadAt 4 fine5_2) w_7 .bool fun (x12_9 : Bool) => K x12_9 w_7)))))

theorem eq_impl_goesOn (part0 : Value) (kind1 : Int) (w : World) (K : Bool → World → Prop) :
    W Try.prog ty (fun _ _ _ _ => False) (bodyOf Try.f42) (fnPost Try.prog Try.f42.results.toList (.one .bool) K) (frame0 [part0, (.int .i64 kind1)] 13) w = V_impl_goesOn part0 kind1 w K := by
  kernel_rfl

theorem body_impl_goesOn : Try.f42.body = some (bodyOf Try.f42) := by kernel_rfl
theorem name_impl_goesOn : (Try.f42.name == "runtime.NumGoroutine") = false := by kernel_rfl

theorem walk_impl_goesOn (part0 : Value) (kind1 : Int) {w : World} {K : Bool → World → Prop} (h : V_impl_goesOn part0 kind1 w K) : Fc Try.prog 42 #[part0, (.int .i64 kind1)] w (.one .bool) K :=
  fn_ok follows (sound_none _) Try.func42 name_impl_goesOn body_impl_goesOn Try.ntmps42 [part0, (.int .i64 kind1)] (Eq.mpr (eq_impl_goesOn part0 kind1 w K) h)

-- uses S8Fault
theorem c_impl_goesOn {a : Value} {l : List Int} {kind : Int} {w : World} {K : Bool → World → Prop} (h : SlI w a l) (hl : l.length ≤ 41) (hk : 0 ≤ kind ∧ kind ≤ 2)
    (hK : ∀ w', Below w.heap.size w w' → K (decide (fz l kind l.length (l.length - 1) = [])) w') : Fc Try.prog F_impl_goesOn #[a, .int .i64 kind] w (.one .bool) K := by
  refine walk_impl_goesOn _ _ (alloc1 yb fun b w1 n1 => st yb n1.at_ (by simp) rfl fun w2 m2 s2 h2 => ?_)
  have e1 := n1.here
  have hb2 : Below w.heap.size w w2 := n1.below.trans (m2.below (by have := n1.below.size; omega) (by simp; omega))
  refine c_impl_sizeS (h.keep hb2) ?_
  refine c_impl_faultsAt (fun d w' => Below w.heap.size w w' ∧ Blk w' b [.bool (decide (d = []))] tb) hl hk (by omega) (by omega) (fun d w' hj => h.keep hj.1) (fun d w' w'' hj hd => ⟨hj.1.trans (hd.below _), below_at (hd.below w'.heap.size) hj.2 (at_lt hj.2)⟩) (fun y y0 y1 hi w' K' hj hk' => cv rfl ?_) ⟨hb2, by simpa using h2⟩ fun w' hj => ?_
  · refine c_impl_goesOn_1 hj.2 fun w'' m hb => hk' w'' ⟨hj.1.trans (m.below hj.1.size (by simp; omega)), ?_⟩
    simpa using hb
  · refine ld (k := .bool) yb (row_all (cs := [_]) hj.2) ?_
    have := hK w' hj.1
    rwa [show ((l.length : Int) - 1).toNat = l.length - 1 from by omega]

end Go.Proofs.Ytlbhpbaeokgmaaa

/- The reading of impl_isFaultKind, and its contract. No condition. -/
namespace Go.Proofs.Ytlbhpbaeokgmaaa
open Go Go.RowKit Eng Mem
set_option linter.unusedVariables false
set_option maxRecDepth 100000
def V_impl_isFaultKind (kind0 : Int) (w : World) (K : Bool → World → Prop) : Prop :=
  (Fc Try.prog 47 #[(.int .i64 kind0), (.int .i64 (0 : Int)), (.int .i64 (2 : Int))] w (.one .bool) fun (x4_2 : Bool) w_1 => K x4_2 w_1)

theorem eq_impl_isFaultKind (kind0 : Int) (w : World) (K : Bool → World → Prop) :
    W Try.prog ty (fun _ _ _ _ => False) (bodyOf Try.f49) (fnPost Try.prog Try.f49.results.toList (.one .bool) K) (frame0 [(.int .i64 kind0)] 5) w = V_impl_isFaultKind kind0 w K := by
  kernel_rfl

theorem body_impl_isFaultKind : Try.f49.body = some (bodyOf Try.f49) := by kernel_rfl
theorem name_impl_isFaultKind : (Try.f49.name == "runtime.NumGoroutine") = false := by kernel_rfl

theorem walk_impl_isFaultKind (kind0 : Int) {w : World} {K : Bool → World → Prop} (h : V_impl_isFaultKind kind0 w K) : Fc Try.prog 49 #[(.int .i64 kind0)] w (.one .bool) K :=
  fn_ok follows (sound_none _) Try.func49 name_impl_isFaultKind body_impl_isFaultKind Try.ntmps49 [(.int .i64 kind0)] (Eq.mpr (eq_impl_isFaultKind kind0 w K) h)

theorem c_impl_isFaultKind (kind : Int) {w : World} {K : Bool → World → Prop} (hK : K (decide (0 ≤ kind ∧ kind ≤ 2)) w) : Fc Try.prog F_impl_isFaultKind #[.int .i64 kind] w (.one .bool) K :=
  walk_impl_isFaultKind _ (c_impl_in _ _ _ hK)

end Go.Proofs.Ytlbhpbaeokgmaaa

/- The reading of impl_partCode, and its contract. No condition. -/
namespace Go.Proofs.Ytlbhpbaeokgmaaa
open Go Go.RowKit Eng Mem
set_option linter.unusedVariables false
set_option maxRecDepth 100000
def V_impl_partCode (k0 : Int) (part1 : Value) (kind2 : Int) (w : World) (K : Int → World → Prop) : Prop :=
  (Fc Try.prog 45 #[(.int .i64 k0), part1] w (.one .bool) fun (x9_2 : Bool) w_1 => (((!x9_2) = true → K (2 : Int) w_1) ∧ ((!x9_2) = false → (Fc Try.prog 49 #[(.int .i64 kind2)] w_1 (.one .bool) fun (x13_4 : Bool) w_3 => (((!x13_4) = true → K (2 : Int) w_3) ∧ ((!x13_4) = false → K (0 : Int) w_3))))))

theorem eq_impl_partCode (k0 : Int) (part1 : Value) (kind2 : Int) (w : World) (K : Int → World → Prop) :
    W Try.prog ty (fun _ _ _ _ => False) (bodyOf Try.f36) (fnPost Try.prog Try.f36.results.toList (.one (.int .i64)) K) (frame0 [(.int .i64 k0), part1, (.int .i64 kind2)] 16) w = V_impl_partCode k0 part1 kind2 w K := by
  kernel_rfl

theorem body_impl_partCode : Try.f36.body = some (bodyOf Try.f36) := by kernel_rfl
theorem name_impl_partCode : (Try.f36.name == "runtime.NumGoroutine") = false := by kernel_rfl

theorem walk_impl_partCode (k0 : Int) (part1 : Value) (kind2 : Int) {w : World} {K : Int → World → Prop} (h : V_impl_partCode k0 part1 kind2 w K) : Fc Try.prog 36 #[(.int .i64 k0), part1, (.int .i64 kind2)] w (.one (.int .i64)) K :=
  fn_ok follows (sound_none _) Try.func36 name_impl_partCode body_impl_partCode Try.ntmps36 [(.int .i64 k0), part1, (.int .i64 kind2)] (Eq.mpr (eq_impl_partCode k0 part1 kind2 w K) h)

-- uses S3Part
theorem c_impl_partCode {k kind : Int} {a : Value} {l : List Int} {w : World} {K : Int → World → Prop} (h : SlI w a l) (hK : ∀ w', Below w.heap.size w w' → K (if IsPart k l ∧ 0 ≤ kind ∧ kind ≤ 2 then 0 else 2) w') :
    Fc Try.prog F_impl_partCode #[.int .i64 k, a, .int .i64 kind] w (.one (.int .i64)) K := by
  refine walk_impl_partCode _ _ _ (c_impl_isPart h fun w1 hb1 => ?_)
  have k1 := hK w1 hb1
  refine ⟨fun h1 => by rwa [if_neg (fun hh => notd_t h1 hh.1)] at k1, fun h1 => c_impl_isFaultKind _ ⟨fun h2 => by rwa [if_neg (fun hh => notd_t h2 hh.2)] at k1, fun h2 => ?_⟩⟩
  rwa [if_pos ⟨notd_f h1, notd_f h2⟩] at k1

end Go.Proofs.Ytlbhpbaeokgmaaa

/- The reading of slices_Clone_int64_int64, and its contract. No condition. -/
namespace Go.Proofs.Ytlbhpbaeokgmaaa
open Go Go.RowKit Eng Mem
set_option linter.unusedVariables false
set_option maxRecDepth 100000
def V_slices_Clone_int64_int64 (s0 : Value) (w : World) (K : Value → World → Prop) : Prop :=
  (QAll Try.prog (do eqGuard .eql 24 (.tmp 3) (.const (.slice none 0 0)) s0 (.slice none 0 0); binOp .eql 24 s0 (.slice none 0 0)) .bool fun (x4_1 : Bool) => ((x4_1 = true → K ((.slice none 0 0) : Value) w) ∧ (x4_1 = false → (Pr Try.prog (Instr.buildSlice 24 0 #[]) w (.one .any) fun (x5_3 : Value) w_2 => (Pr Try.prog (Builtin.append_ #[24, 24] 24 #[x5_3, s0]) w_2 (.one .any) fun (x7_5 : Value) w_4 => K (x7_5 : Value) w_4)))))

theorem eq_slices_Clone_int64_int64 (s0 : Value) (w : World) (K : Value → World → Prop) :
    W Try.prog ty (fun _ _ _ _ => False) (bodyOf Try.f43) (fnPost Try.prog Try.f43.results.toList (.one .any) K) (frame0 [s0] 8) w = V_slices_Clone_int64_int64 s0 w K := by
  kernel_rfl

theorem body_slices_Clone_int64_int64 : Try.f43.body = some (bodyOf Try.f43) := by kernel_rfl
theorem name_slices_Clone_int64_int64 : (Try.f43.name == "runtime.NumGoroutine") = false := by kernel_rfl

theorem walk_slices_Clone_int64_int64 (s0 : Value) {w : World} {K : Value → World → Prop} (h : V_slices_Clone_int64_int64 s0 w K) : Fc Try.prog 43 #[s0] w (.one .any) K :=
  fn_ok follows (sound_none _) Try.func43 name_slices_Clone_int64_int64 body_slices_Clone_int64_int64 Try.ntmps43 [s0] (Eq.mpr (eq_slices_Clone_int64_int64 s0 w K) h)

-- uses S2Sl
theorem c_slices_Clone_int64_int64 {a : Value} {l : List Int} {w : World} {K : Value → World → Prop} (h : SlI w a l) (hl : l.length ≤ 1099511627776) (hK : ∀ v w', Below w.heap.size w w' → MyI w.heap.size w'.heap.size w' v l → K v w') :
    Fc Try.prog F_slices_Clone_int64_int64 #[a] w (.one .any) K := by
  refine walk_slices_Clone_int64_int64 _ (nil_I h fun b hb => ⟨fun ht => ?_, fun _ => ?_⟩)
  · have := hb ht
    subst this
    exact hK _ w (Below.refl _ _) (myI_nil _ _ _)
  · refine nilI fun b v w1 hb1 hbel ho => ?_
    refine appsI ho (h.keep hbel) (by simpa using hl) fun v' w2 b2 o m hb2 => ?_
    have hs := hbel.size
    rw [List.nil_append] at o
    exact hK _ w2 (hbel.trans (m.below (by omega) (by simp; omega))) (own_my o hl (by omega) o.lt)

end Go.Proofs.Ytlbhpbaeokgmaaa

/- The reading of impl_ColoursNext, and its contract. No condition. -/
namespace Go.Proofs.Ytlbhpbaeokgmaaa
open Go Go.RowKit Eng Mem
set_option linter.unusedVariables false
set_option maxRecDepth 100000
def B_impl_ColoursNext_7 (part1 : Value) (kind2 : Int) (x28 : Int) (out8 : Value) (x29 : Int) (N : (Value × Int × Int) → (Value × Int) → World → Prop) (D1 : (Value × Unit) → World → Prop) (w : World) : Prop :=
  (((decide (x29 < x28)) = true → (Fc Try.prog 43 #[part1] w (.one .any) fun (x33_10 : Value) w_9 => (Pr Try.prog (Instr.buildSlice 24 1 #[(0, (.int .i64 x29))]) w_9 (.one .any) fun (x35_12 : Value) w_11 => (Pr Try.prog (Builtin.append_ #[24, 24] 24 #[x33_10, x35_12]) w_11 (.one .any) fun (x36_14 : Value) w_13 => (Fc Try.prog 42 #[x36_14, (.int .i64 kind2)] w_13 (.one .bool) fun (x38_16 : Bool) w_15 => ((x38_16 = true → (Pr Try.prog (Instr.buildSlice 24 1 #[(0, (.int .i64 x29))]) w_15 (.one .any) fun (x41_18 : Value) w_17 => (Pr Try.prog (Builtin.append_ #[24, 24] 24 #[out8, x41_18]) w_17 (.one .any) fun (x42_20 : Value) w_19 => N ((part1 : Value), kind2, x28) ((x42_20 : Value), (IntKind.i64.wrap (x29 + (1 : Int)))) w_19))) ∧ (x38_16 = false → N ((part1 : Value), kind2, x28) ((out8 : Value), (IntKind.i64.wrap (x29 + (1 : Int)))) w_15))))))) ∧ ((decide (x29 < x28)) = false → D1 ((out8 : Value), ()) w))

abbrev L_impl_ColoursNext_7_e1 : List Slot := [.junk, .junk, .junk, .junk, .junk, .junk, .junk, .junk, .k .any, .junk, .junk, .junk, .junk, .junk, .junk, .junk, .junk, .junk, .junk, .junk, .junk, .junk, .junk, .junk, .junk, .junk, .junk, .junk, .junk, .junk, .junk, .junk, .junk, .junk, .junk, .junk, .junk, .junk, .junk, .junk, .junk, .junk, .junk, .junk, .junk]

abbrev L_impl_ColoursNext_7_sp : List Slot := [.junk, .k .any, .k (.int .i64), .junk, .junk, .junk, .junk, .junk, .k .any, .junk, .junk, .junk, .junk, .junk, .junk, .junk, .junk, .junk, .junk, .junk, .junk, .junk, .junk, .junk, .junk, .junk, .junk, .junk, .k (.int .i64), .k (.int .i64), .junk, .junk, .junk, .junk, .junk, .junk, .junk, .junk, .junk, .junk, .junk, .junk, .junk, .junk, .junk]
abbrev L_impl_ColoursNext_7_ex : List (Nat × List Slot) := [(1, L_impl_ColoursNext_7_e1)]
abbrev L_impl_ColoursNext_7_rt : List Slot := [.junk, .junk, .junk, .junk, .junk, .junk, .junk, .junk, .junk, .junk, .junk, .junk, .junk, .junk, .junk, .junk, .junk, .junk, .junk, .junk, .junk, .junk, .junk, .junk, .junk, .junk, .junk, .junk, .junk, .junk, .junk, .junk, .junk, .junk, .junk, .junk, .junk, .junk, .junk, .junk, .junk, .junk, .junk, .junk, .junk]

def L_impl_ColoursNext_7_b (Φ : Post) (u : (Value × Int × Int)) (N : (Value × Int × Int) → (Value × Int) → World → Prop) (s : (Value × Int)) (w : World) : Prop :=
  B_impl_ColoursNext_7 u.1 u.2.1 u.2.2 s.1 s.2 N (fun v w => ∀ j : Nat → Value, Φ (.exit 1) (mkT j 0 L_impl_ColoursNext_7_e1 v) w) w

theorem L_impl_ColoursNext_7_eq (j : Nat → Value) (u : (Value × Int × Int)) (s : (Value × Int)) (N : (Value × Int × Int) → (Value × Int) → World → Prop) (D1 : (Value × Unit) → World → Prop) (R : (Unit) → World → Prop) (w : World) :
    W Try.prog ty (fun _ _ _ _ => False) (loopAt Try.f14 7) (loopPost L_impl_ColoursNext_7_sp [(1, (⟨L_impl_ColoursNext_7_e1, D1⟩ : Door))] ⟨L_impl_ColoursNext_7_rt, R⟩ (fun v w => N ((fun v => (v.1, v.2.1, v.2.2.2.1)) v) ((fun v => (v.2.2.1, v.2.2.2.2.1)) v) w)) (mkT j 0 L_impl_ColoursNext_7_sp ((fun u s => (u.1, u.2.1, s.1, u.2.2, s.2, ())) u s)) w =
    B_impl_ColoursNext_7 u.1 u.2.1 u.2.2 s.1 s.2 N D1 w := by
  kernel_rfl

def O_impl_ColoursNext_1 : Code → Post → List SV → World → Prop :=
  orc 7 (loopAt Try.f14 7) L_impl_ColoursNext_7_sp (fun Φ fr w => LOOP (U := (Value × Int × Int)) (S := (Value × Int)) ((fun v => (v.1, v.2.1, v.2.2.2.1)) (extT L_impl_ColoursNext_7_sp fr)) (L_impl_ColoursNext_7_b Φ ((fun v => (v.1, v.2.1, v.2.2.2.1)) (extT L_impl_ColoursNext_7_sp fr))) ((fun v => (v.2.2.1, v.2.2.2.2.1)) (extT L_impl_ColoursNext_7_sp fr)) w) (fun _ _ _ _ => False)

theorem O_impl_ColoursNext_1_ok : Sound Try.prog O_impl_ColoursNext_1 :=
  orc_ok (sound_none _) fun Φ fr w hs h => loop_ok (ty := ty) follows (sound_none _) L_impl_ColoursNext_7_sp (fun v => (v.1, v.2.1, v.2.2.2.1)) (fun v => (v.2.2.1, v.2.2.2.2.1)) (fun u s => (u.1, u.2.1, s.1, u.2.2, s.2, ())) (fun _ => rfl) L_impl_ColoursNext_7_ex L_impl_ColoursNext_7_rt (body := L_impl_ColoursNext_7_b Φ) (fun j u s w N hb => by
    have e := L_impl_ColoursNext_7_eq j u s N (doorOf Φ (.exit 1) L_impl_ColoursNext_7_e1).D (doorOf Φ .ret L_impl_ColoursNext_7_rt).D w
    exact Eq.mpr e hb) hs h

def V_impl_ColoursNext (k0 : Int) (part1 : Value) (kind2 : Int) (w : World) (K : (Value × Int) → World → Prop) : Prop :=
  (Fc Try.prog 36 #[(.int .i64 k0), part1, (.int .i64 kind2)] w (.one (.int .i64)) fun (x14_2 : Int) w_1 => (((x14_2 != (0 : Int)) = true → K (((.slice none 0 0) : Value), (2 : Int)) w_1) ∧ ((x14_2 != (0 : Int)) = false → (QAll Try.prog (Builtin.len_ #[24] 3 #[part1]) (.int .i64) fun (x18_3 : Int) => (((x18_3 == (40 : Int)) = true → K (((.slice none 0 0) : Value), (2 : Int)) w_1) ∧ ((x18_3 == (40 : Int)) = false → (Fc Try.prog 37 #[part1, (.int .i64 kind2)] w_1 (.one .any) fun (x24_5 : Value) w_4 => (QAll Try.prog (Builtin.len_ #[52] 3 #[x24_5]) (.int .i64) fun (x25_6 : Int) => (((decide (x25_6 > (0 : Int))) = true → K (((.slice none 0 0) : Value), (5 : Int)) w_4) ∧ ((decide (x25_6 > (0 : Int))) = false → (Pr Try.prog (Instr.buildSlice 24 0 #[]) w_4 (.one .any) fun (x27_8 : Value) w_7 => (At (loopAt Try.f14 7) (loopAt Try.f14 7) (LOOP (U := (Value × Int × Int)) (S := (Value × Int)) ((part1 : Value), kind2, k0) (fun N_24 s_25 w_26 => B_impl_ColoursNext_7 (part1 : Value) kind2 k0 s_25.1 s_25.2 N_24 (fun (v_21 : (Value × Unit)) w_22 => ∀ _j_23 : Nat → Value, K ((v_21.1 : Value), (0 : Int)) w_22) w_26) ((x27_8 : Value), (0 : Int)) w_7)))))))))))))

theorem eq_impl_ColoursNext (k0 : Int) (part1 : Value) (kind2 : Int) (w : World) (K : (Value × Int) → World → Prop) :
    W Try.prog ty O_impl_ColoursNext_1 (bodyOf Try.f14) (fnPost Try.prog Try.f14.results.toList (.two .any (.int .i64)) K) (frame0 [(.int .i64 k0), part1, (.int .i64 kind2)] 45) w = V_impl_ColoursNext k0 part1 kind2 w K := by
  kernel_rfl

theorem body_impl_ColoursNext : Try.f14.body = some (bodyOf Try.f14) := by kernel_rfl
theorem name_impl_ColoursNext : (Try.f14.name == "runtime.NumGoroutine") = false := by kernel_rfl

theorem walk_impl_ColoursNext (k0 : Int) (part1 : Value) (kind2 : Int) {w : World} {K : (Value × Int) → World → Prop} (h : V_impl_ColoursNext k0 part1 kind2 w K) : Fc Try.prog 14 #[(.int .i64 k0), part1, (.int .i64 kind2)] w (.two .any (.int .i64)) K :=
  fn_ok follows O_impl_ColoursNext_1_ok Try.func14 name_impl_ColoursNext body_impl_ColoursNext Try.ntmps14 [(.int .i64 k0), part1, (.int .i64 kind2)] (Eq.mpr (eq_impl_ColoursNext k0 part1 kind2 w K) h)

-- uses S8App
theorem c_impl_ColoursNext {k kind : Int} {a : Value} {l : List Int} {w : World} {K : Value × Int → World → Prop} (_ : I64 k) (ha : ArgI w a l) (_ : I64 kind)
    (hK : ∀ w' v, Below w.heap.size w w' → MyI w.heap.size w'.heap.size w' v (nextOf k l kind).1 → K (v, (nextOf k l kind).2) w') : Fc Try.prog F_impl_ColoursNext #[.int .i64 k, a, .int .i64 kind] w (.two .any (.int .i64)) K := by
  unfold nextOf at hK
  refine walk_impl_ColoursNext _ _ _ (c_impl_partCode ha.sl fun w1 hb1 => ?_)
  have h1 := ha.sl.keep hb1
  have hs1 := hb1.size
  by_cases h : IsPart k l ∧ 0 ≤ kind ∧ kind ≤ 2
  case neg =>
    rw [if_neg h] at hK ⊢
    exact ⟨fun _ => hK w1 _ hb1 (myI_nil _ _ _), fun e => absurd (ne_f e) (by omega)⟩
  rw [if_pos h] at hK ⊢
  have hl := h.1.2.2.1; have k0 := h.1.1; have k3 := h.1.2.1
  refine ⟨fun e => absurd rfl (ne_t e), fun _ => lenI h1 ⟨fun e => ?_, fun e => ?_⟩⟩
  · rw [if_pos (by have := eq_t e; omega)] at hK
    exact hK w1 _ hb1 (myI_nil _ _ _)
  have e := eq_f e
  rw [if_neg (by omega)] at hK
  refine c_impl_faults h1 (by omega) h.2 fun w2 v b hb2 hB hm => hm.len_eq ?_
  have q2 := hb1.trans (hb2.mono hs1)
  have hs2 := q2.size
  refine ⟨fun e2 => ?_, fun e2 => ?_⟩
  · rw [if_neg (fun hh => by have := dec_t e2; rw [hh] at this; simp at this)] at hK
    exact hK w2 _ q2 (myI_nil _ _ _)
  have hnil : faR l kind 0 l.length = [] := List.eq_nil_of_length_eq_zero (by have := dec_f e2; omega)
  rw [if_pos hnil] at hK
  refine nilI fun b v w3 hb3 hbel ho => ?_
  refine lp (fun s w' => 0 ≤ s.2 ∧ s.2 ≤ k ∧ Below w2.heap.size w2 w' ∧ ∃ b, w2.heap.size ≤ b ∧ OwnI w' b s.1 (nextL l kind s.2.toNat)) (fun s _ => (k - s.2).toNat) ⟨by simp, by simp; omega, hbel, b, by omega, ho⟩ ?_
  rintro ⟨v, c⟩ w4 N ⟨c0, c1, hb4, b4, hbb4, hO⟩ hN
  simp only at c0 c1 hO
  unfold B_impl_ColoursNext_7
  have h4 := (h1.keep hb2).keep hb4
  have hs4 := hb4.size
  refine ⟨fun hlt => ?_, fun hge => ?_⟩
  · have hlt := dec_t hlt
    simp only at hlt
    have hnl := nextL_len l kind c.toNat
    have hL : (l ++ [c]).length = l.length + 1 := by simp
    refine c_slices_Clone_int64_int64 h4 (by omega) fun x w5 hb5 hx => ?_
    have hs5 := hb5.size
    refine hx.app hs5 (by omega) fun x' w6 hb6 hx' => ?_
    have q6 := hb5.trans hb6
    have hs6 := q6.size
    refine c_impl_goesOn hx'.sl (by rw [hL]; omega) h.2 fun w7 hb7 => ?_
    have q7 := q6.trans (hb7.mono hs6)
    have hO7 := hO.keep q7
    have hc : (c.toNat : Int) = c := by omega
    have hsucc := nextL_succ l kind c.toNat
    rw [hc] at hsucc
    rw [hL, show ((l.length + 1 : Nat) : Int) = (l.length : Int) + 1 from by omega, show l.length + 1 - 1 = l.length from by omega]
    have q47 := hb4.trans (q7.mono hs4)
    refine ⟨fun hg => ?_, fun hg => ?_⟩
    · rw [if_pos (dec_t hg)] at hsucc
      refine appI hO7 (by omega) fun v' w8 b8 o8 m8 hb8 => ?_
      simp only
      rw [wrap_small (by omega) (by omega)]
      have hs7 := q7.size
      refine hN _ _ ⟨by simp; omega, by simp; omega, q47.trans (m8.below (by omega) (by simp; omega)), b8, by omega, ?_⟩ (by simp; omega)
      simp only
      rw [show (c + 1).toNat = c.toNat + 1 from by omega, hsucc]
      exact o8
    · rw [if_neg (dec_f hg), List.append_nil] at hsucc
      simp only
      rw [wrap_small (by omega) (by omega)]
      refine hN _ _ ⟨by simp; omega, by simp; omega, q47, b4, hbb4, ?_⟩ (by simp; omega)
      simp only
      rw [show (c + 1).toNat = c.toNat + 1 from by omega, hsucc]
      exact hO7
  · have hge := dec_f hge
    simp only at hge
    intro _
    have : c = k := by omega
    subst this
    have hnl := nextL_len l kind c.toNat
    exact hK w4 v (q2.trans (hb4.mono hs2)) (own_my hO (by show (nextL l kind c.toNat).length ≤ _; omega) (by omega) hO.lt)

end Go.Proofs.Ytlbhpbaeokgmaaa

/- The reading of impl_sizeSS, and its contract. No condition. -/
namespace Go.Proofs.Ytlbhpbaeokgmaaa
open Go Go.RowKit Eng Mem
set_option linter.unusedVariables false
set_option maxRecDepth 100000
def V_impl_sizeSS (list0 : Value) (w : World) (K : Int → World → Prop) : Prop :=
  (QAll Try.prog (Builtin.len_ #[52] 3 #[list0]) (.int .i64) fun (x4_1 : Int) => K x4_1 w)

theorem eq_impl_sizeSS (list0 : Value) (w : World) (K : Int → World → Prop) :
    W Try.prog ty (fun _ _ _ _ => False) (bodyOf Try.f40) (fnPost Try.prog Try.f40.results.toList (.one (.int .i64)) K) (frame0 [list0] 5) w = V_impl_sizeSS list0 w K := by
  kernel_rfl

theorem body_impl_sizeSS : Try.f40.body = some (bodyOf Try.f40) := by kernel_rfl
theorem name_impl_sizeSS : (Try.f40.name == "runtime.NumGoroutine") = false := by kernel_rfl

theorem walk_impl_sizeSS (list0 : Value) {w : World} {K : Int → World → Prop} (h : V_impl_sizeSS list0 w K) : Fc Try.prog 40 #[list0] w (.one (.int .i64)) K :=
  fn_ok follows (sound_none _) Try.func40 name_impl_sizeSS body_impl_sizeSS Try.ntmps40 [list0] (Eq.mpr (eq_impl_sizeSS list0 w K) h)

-- uses S8SS
theorem c_impl_sizeSS {B b : Nat} {a : Value} {ls : List (List Int)} {w : World} {K : Int → World → Prop} (h : MySS B b w a ls) (hK : K (ls.length : Int) w) : Fc Try.prog F_impl_sizeSS #[a] w (.one (.int .i64)) K :=
  walk_impl_sizeSS _ (h.len_eq hK)

end Go.Proofs.Ytlbhpbaeokgmaaa

/- The reading of impl_CountFaults, and its contract. No condition. -/
namespace Go.Proofs.Ytlbhpbaeokgmaaa
open Go Go.RowKit Eng Mem
set_option linter.unusedVariables false
set_option maxRecDepth 100000
def V_impl_CountFaults (k0 : Int) (part1 : Value) (kind2 : Int) (w : World) (K : (Int × Int) → World → Prop) : Prop :=
  (Fc Try.prog 36 #[(.int .i64 k0), part1, (.int .i64 kind2)] w (.one (.int .i64)) fun (x12_2 : Int) w_1 => (((x12_2 != (0 : Int)) = true → K ((0 : Int), x12_2) w_1) ∧ ((x12_2 != (0 : Int)) = false → (Fc Try.prog 37 #[part1, (.int .i64 kind2)] w_1 (.one .any) fun (x18_4 : Value) w_3 => (Fc Try.prog 40 #[x18_4] w_3 (.one (.int .i64)) fun (x19_6 : Int) w_5 => K (x19_6, (0 : Int)) w_5)))))

theorem eq_impl_CountFaults (k0 : Int) (part1 : Value) (kind2 : Int) (w : World) (K : (Int × Int) → World → Prop) :
    W Try.prog ty (fun _ _ _ _ => False) (bodyOf Try.f12) (fnPost Try.prog Try.f12.results.toList (.two (.int .i64) (.int .i64)) K) (frame0 [(.int .i64 k0), part1, (.int .i64 kind2)] 20) w = V_impl_CountFaults k0 part1 kind2 w K := by
  kernel_rfl

theorem body_impl_CountFaults : Try.f12.body = some (bodyOf Try.f12) := by kernel_rfl
theorem name_impl_CountFaults : (Try.f12.name == "runtime.NumGoroutine") = false := by kernel_rfl

theorem walk_impl_CountFaults (k0 : Int) (part1 : Value) (kind2 : Int) {w : World} {K : (Int × Int) → World → Prop} (h : V_impl_CountFaults k0 part1 kind2 w K) : Fc Try.prog 12 #[(.int .i64 k0), part1, (.int .i64 kind2)] w (.two (.int .i64) (.int .i64)) K :=
  fn_ok follows (sound_none _) Try.func12 name_impl_CountFaults body_impl_CountFaults Try.ntmps12 [(.int .i64 k0), part1, (.int .i64 kind2)] (Eq.mpr (eq_impl_CountFaults k0 part1 kind2 w K) h)

-- uses S8Cnt
theorem c_impl_CountFaults {k kind : Int} {a : Value} {l : List Int} {w : World} {K : Int × Int → World → Prop} (_ : I64 k) (ha : ArgI w a l) (_ : I64 kind)
    (hK : ∀ w', Below w.heap.size w w' → K ((cntF k l kind).1, (cntF k l kind).2) w') : Fc Try.prog F_impl_CountFaults #[.int .i64 k, a, .int .i64 kind] w (.two (.int .i64) (.int .i64)) K := by
  unfold cntF at hK
  refine walk_impl_CountFaults _ _ _ (c_impl_partCode ha.sl fun w1 hb1 => ?_)
  by_cases h : IsPart k l ∧ 0 ≤ kind ∧ kind ≤ 2
  · rw [if_pos h] at hK ⊢
    have hl := h.1.2.2.1
    refine ⟨fun e => absurd rfl (ne_t e), fun _ => c_impl_faults (ha.sl.keep hb1) (by omega) h.2 fun w2 v b hb2 hB hm => c_impl_sizeSS hm (hK w2 (hb1.trans (hb2.mono hb1.size)))⟩
  · rw [if_neg h] at hK ⊢
    exact ⟨fun _ => hK w1 hb1, fun e => absurd (ne_f e) (by omega)⟩

end Go.Proofs.Ytlbhpbaeokgmaaa

/- The reading of impl_CountFree_1, and its contract. No condition. -/
namespace Go.Proofs.Ytlbhpbaeokgmaaa
open Go Go.RowKit Eng Mem
set_option linter.unusedVariables false
set_option maxRecDepth 100000
def V_impl_CountFree_1 (part0 : Value) (x1 : Value) (x2 : Value) (w : World) (K : Bool → World → Prop) : Prop :=
  (∀ w_1, Drew w w_1 → (QSub Try.prog (Instr.loadAt 2 x1) w_1 (.int .i64) fun (x7_2 : Int) => (Fc Try.prog 52 #[part0] w_1 (.one (.int .i64)) fun (x6_4 : Int) w_3 => (Keeps w_1 w_3 ((((x6_4 == x7_2) = true → (QSub Try.prog (Instr.loadAt 2 x2) w_3 (.int .i64) fun (x9_5 : Int) => (PrU Try.prog (Instr.storeAt 2 x2 (.int .i64 (IntKind.i64.wrap (x9_5 + (1 : Int))))) w_3 fun w_6 => K true w_6))) ∧ ((x6_4 == x7_2) = false → K true w_3)))))))

theorem eq_impl_CountFree_1 (part0 : Value) (x1 : Value) (x2 : Value) (w : World) (K : Bool → World → Prop) :
    W Try.prog ty (fun _ _ _ _ => False) (bodyOf Try.f57) (fnPost Try.prog Try.f57.results.toList (.one .bool) K) (frame0 [part0, x1, x2] 11) w = V_impl_CountFree_1 part0 x1 x2 w K := by
  kernel_rfl

theorem body_impl_CountFree_1 : Try.f57.body = some (bodyOf Try.f57) := by kernel_rfl
theorem name_impl_CountFree_1 : (Try.f57.name == "runtime.NumGoroutine") = false := by kernel_rfl

theorem walk_impl_CountFree_1 (part0 : Value) (x1 : Value) (x2 : Value) {w : World} {K : Bool → World → Prop} (h : V_impl_CountFree_1 part0 x1 x2 w K) : Fc Try.prog 57 #[part0, x1, x2] w (.one .bool) K :=
  fn_ok follows (sound_none _) Try.func57 name_impl_CountFree_1 body_impl_CountFree_1 Try.ntmps57 [part0, x1, x2] (Eq.mpr (eq_impl_CountFree_1 part0 x1 x2 w K) h)

-- uses S8CF
theorem c_impl_CountFree_1 {p : Value} {bm : Nat} {part : Value} {l : List Int} {n m : Int} {w : World} {K : Bool → World → Prop} (hp : Cell w p (.int .i64 n)) (hm : Blk w bm [.int .i64 m] tI) (hs : SlI w part l) (h0 : 0 ≤ m) (h1 : m ≤ 1000000000)
    (hK : ∀ w', Mod [bm] w w' → Blk w' bm [.int .i64 (m + if (l.length : Int) = n then 1 else 0)] tI → K true w') : Fc Try.prog F_impl_CountFree_1 #[part, p, ptr bm 0] w (.one .bool) K := by
  refine walk_impl_CountFree_1 _ _ _ ?_
  intro w1 hd
  have hb := hd.below w.heap.size
  have hm1 : Blk w1 bm [.int .i64 m] tI := below_at hb hm (at_lt hm)
  refine ld (k := .int .i64) yI (hp.keep hb) (c_impl_sizeS (hs.keep hb) ⟨Below.refl _ _, fun he => ?_, fun hne => ?_⟩)
  · refine ld (k := .int .i64) yI (row_all (cs := [_]) hm1) (st yI hm1 (by simp) rfl fun w2 m2 s2 h2 => hK w2 ((mod_of_below hb _).trans m2) ?_)
    rw [wrap_small (by omega) (by omega)] at h2
    rw [if_pos (eq_t he)]
    exact h2
  · refine hK w1 (mod_of_below hb _) ?_
    rw [if_neg (eq_f hne), Int.add_zero]
    exact hm1

end Go.Proofs.Ytlbhpbaeokgmaaa

/- The reading of impl_free, and its contract. No condition. -/
namespace Go.Proofs.Ytlbhpbaeokgmaaa
open Go Go.RowKit Eng Mem
set_option linter.unusedVariables false
set_option maxRecDepth 100000
def B_impl_free_6 (n0 : Int) (k1 : Int) (kind2 : Int) (part3 : Value) (with4 : Value) (x21 : Int) (x22 : Int) (N : (Int × Int × Int × Value × Value × Int) → Int → World → Prop) (D0 : (Unit) → World → Prop) (R : (Bool × Unit) → World → Prop) (w : World) : Prop :=
  (((decide (x22 < x21)) = true → (Fc Try.prog 43 #[part3] w (.one .any) fun (x26_6 : Value) w_5 => (Pr Try.prog (Instr.buildSlice 24 1 #[(0, (.int .i64 x22))]) w_5 (.one .any) fun (x28_8 : Value) w_7 => (Pr Try.prog (Builtin.append_ #[24, 24] 24 #[x26_6, x28_8]) w_7 (.one .any) fun (x29_10 : Value) w_9 => (Fc Try.prog 42 #[x29_10, (.int .i64 kind2)] w_9 (.one .bool) fun (x32_12 : Bool) w_11 => ((x32_12 = true → (Fc Try.prog 50 #[(.int .i64 n0), (.int .i64 k1), (.int .i64 kind2), x29_10, with4] w_11 (.one .bool) fun (x39_14 : Bool) w_13 => (((!x39_14) = true → R (false, ()) w_13) ∧ ((!x39_14) = false → N (n0, k1, kind2, (part3 : Value), (with4 : Value), x21) (IntKind.i64.wrap (x22 + (1 : Int))) w_13)))) ∧ (x32_12 = false → N (n0, k1, kind2, (part3 : Value), (with4 : Value), x21) (IntKind.i64.wrap (x22 + (1 : Int))) w_11))))))) ∧ ((decide (x22 < x21)) = false → D0 () w))

abbrev L_impl_free_6_e0 : List Slot := [.junk, .junk, .junk, .junk, .junk, .junk, .junk, .junk, .junk, .junk, .junk, .junk, .junk, .junk, .junk, .junk, .junk, .junk, .junk, .junk, .junk, .junk, .junk, .junk, .junk, .junk, .junk, .junk, .junk, .junk, .junk, .junk, .junk, .junk, .junk, .junk, .junk, .junk, .junk, .junk, .junk, .junk, .junk]

abbrev L_impl_free_6_sp : List Slot := [.k (.int .i64), .k (.int .i64), .k (.int .i64), .k .any, .k .any, .junk, .junk, .junk, .junk, .junk, .junk, .junk, .junk, .junk, .junk, .junk, .junk, .junk, .junk, .junk, .junk, .k (.int .i64), .k (.int .i64), .junk, .junk, .junk, .junk, .junk, .junk, .junk, .junk, .junk, .junk, .junk, .junk, .junk, .junk, .junk, .junk, .junk, .junk, .junk, .junk]
abbrev L_impl_free_6_ex : List (Nat × List Slot) := [(0, L_impl_free_6_e0)]
abbrev L_impl_free_6_rt : List Slot := [.junk, .junk, .junk, .junk, .junk, .junk, .junk, .junk, .junk, .junk, .k .bool, .junk, .junk, .junk, .junk, .junk, .junk, .junk, .junk, .junk, .junk, .junk, .junk, .junk, .junk, .junk, .junk, .junk, .junk, .junk, .junk, .junk, .junk, .junk, .junk, .junk, .junk, .junk, .junk, .junk, .junk, .junk, .junk]

def L_impl_free_6_b (Φ : Post) (u : (Int × Int × Int × Value × Value × Int)) (N : (Int × Int × Int × Value × Value × Int) → Int → World → Prop) (s : Int) (w : World) : Prop :=
  B_impl_free_6 u.1 u.2.1 u.2.2.1 u.2.2.2.1 u.2.2.2.2.1 u.2.2.2.2.2 s N (fun v w => ∀ j : Nat → Value, Φ (.exit 0) (mkT j 0 L_impl_free_6_e0 v) w) (fun v w => ∀ j : Nat → Value, Φ .ret (mkT j 0 L_impl_free_6_rt v) w) w

theorem L_impl_free_6_eq (j : Nat → Value) (u : (Int × Int × Int × Value × Value × Int)) (s : Int) (N : (Int × Int × Int × Value × Value × Int) → Int → World → Prop) (D0 : (Unit) → World → Prop) (R : (Bool × Unit) → World → Prop) (w : World) :
    W Try.prog ty (fun _ _ _ _ => False) (loopAt Try.f50 6) (loopPost L_impl_free_6_sp [(0, (⟨L_impl_free_6_e0, D0⟩ : Door))] ⟨L_impl_free_6_rt, R⟩ (fun v w => N ((fun v => (v.1, v.2.1, v.2.2.1, v.2.2.2.1, v.2.2.2.2.1, v.2.2.2.2.2.1)) v) ((fun v => v.2.2.2.2.2.2.1) v) w)) (mkT j 0 L_impl_free_6_sp ((fun u s => (u.1, u.2.1, u.2.2.1, u.2.2.2.1, u.2.2.2.2.1, u.2.2.2.2.2, s, ())) u s)) w =
    B_impl_free_6 u.1 u.2.1 u.2.2.1 u.2.2.2.1 u.2.2.2.2.1 u.2.2.2.2.2 s N D0 R w := by
  kernel_rfl

def O_impl_free_1 : Code → Post → List SV → World → Prop :=
  orc 6 (loopAt Try.f50 6) L_impl_free_6_sp (fun Φ fr w => LOOP (U := (Int × Int × Int × Value × Value × Int)) (S := Int) ((fun v => (v.1, v.2.1, v.2.2.1, v.2.2.2.1, v.2.2.2.2.1, v.2.2.2.2.2.1)) (extT L_impl_free_6_sp fr)) (L_impl_free_6_b Φ ((fun v => (v.1, v.2.1, v.2.2.1, v.2.2.2.1, v.2.2.2.2.1, v.2.2.2.2.2.1)) (extT L_impl_free_6_sp fr))) ((fun v => v.2.2.2.2.2.2.1) (extT L_impl_free_6_sp fr)) w) (fun _ _ _ _ => False)

theorem O_impl_free_1_ok : Sound Try.prog O_impl_free_1 :=
  orc_ok (sound_none _) fun Φ fr w hs h => loop_ok (ty := ty) follows (sound_none _) L_impl_free_6_sp (fun v => (v.1, v.2.1, v.2.2.1, v.2.2.2.1, v.2.2.2.2.1, v.2.2.2.2.2.1)) (fun v => v.2.2.2.2.2.2.1) (fun u s => (u.1, u.2.1, u.2.2.1, u.2.2.2.1, u.2.2.2.2.1, u.2.2.2.2.2, s, ())) (fun _ => rfl) L_impl_free_6_ex L_impl_free_6_rt (body := L_impl_free_6_b Φ) (fun j u s w N hb => by
    have e := L_impl_free_6_eq j u s N (doorOf Φ (.exit 0) L_impl_free_6_e0).D (doorOf Φ .ret L_impl_free_6_rt).D w
    exact Eq.mpr e hb) hs h

def V_impl_free (n0 : Int) (k1 : Int) (kind2 : Int) (part3 : Value) (with4 : Value) (w : World) (K : Bool → World → Prop) : Prop :=
  (callV Try.prog with4 #[part3] w (.one .bool) fun (x15_2 : Bool) w_1 => (((!x15_2) = true → K false w_1) ∧ ((!x15_2) = false → (Fc Try.prog 52 #[part3] w_1 (.one (.int .i64)) fun (x18_4 : Int) w_3 => (((x18_4 == n0) = true → K true w_3) ∧ ((x18_4 == n0) = false → (At (loopAt Try.f50 6) (loopAt Try.f50 6) (LOOP (U := (Int × Int × Int × Value × Value × Int)) (S := Int) (n0, k1, kind2, (part3 : Value), (with4 : Value), k1) (fun N_21 s_22 w_23 => B_impl_free_6 n0 k1 kind2 (part3 : Value) (with4 : Value) k1 s_22 N_21 (fun (v_15 : (Unit)) w_16 => ∀ _j_17 : Nat → Value, K true w_16) (fun (v_18 : (Bool × Unit)) w_19 => ∀ _j_20 : Nat → Value, K v_18.1 w_19) w_23) (0 : Int) w_3))))))))

theorem eq_impl_free (n0 : Int) (k1 : Int) (kind2 : Int) (part3 : Value) (with4 : Value) (w : World) (K : Bool → World → Prop) :
    W Try.prog ty O_impl_free_1 (bodyOf Try.f50) (fnPost Try.prog Try.f50.results.toList (.one .bool) K) (frame0 [(.int .i64 n0), (.int .i64 k1), (.int .i64 kind2), part3, with4] 43) w = V_impl_free n0 k1 kind2 part3 with4 w K := by
  kernel_rfl

theorem body_impl_free : Try.f50.body = some (bodyOf Try.f50) := by kernel_rfl
theorem name_impl_free : (Try.f50.name == "runtime.NumGoroutine") = false := by kernel_rfl

theorem walk_impl_free (n0 : Int) (k1 : Int) (kind2 : Int) (part3 : Value) (with4 : Value) {w : World} {K : Bool → World → Prop} (h : V_impl_free n0 k1 kind2 part3 with4 w K) : Fc Try.prog 50 #[(.int .i64 n0), (.int .i64 k1), (.int .i64 kind2), part3, with4] w (.one .bool) K :=
  fn_ok follows O_impl_free_1_ok Try.func50 name_impl_free body_impl_free Try.ntmps50 [(.int .i64 n0), (.int .i64 k1), (.int .i64 kind2), part3, with4] (Eq.mpr (eq_impl_free n0 k1 kind2 part3 with4 w K) h)

-- uses S8Free
theorem c_impl_free {f : Value} {k kind : Int} {n : Nat} (r : List Int → Bool) (J : List (List Int) → World → Prop) (B0 : Nat) (T : List (List Int)) (hk : 0 ≤ k ∧ k ≤ 3) (hkind : 0 ≤ kind ∧ kind ≤ 2) (hn : n ≤ 40)
    (hst : ∀ d w' w'', J d w' → Below w'.heap.size w' w'' → J d w'')
    (hcall : ∀ d l e, T = d ++ l :: e → l.length ≤ n → ∀ (part : Value) (w' : World) (K' : Bool → World → Prop), J d w' → MyI B0 w'.heap.size w' part l → (∀ w'', J (d ++ [l]) w'' → ModR 0 B0 w' w'' → K' (r l) w'') → callV Try.prog f #[part] w' (.one .bool) K') :
    ∀ (fuel : Nat) (l : List Int) (part : Value) (d e : List (List Int)) (w : World) (K : Bool → World → Prop), l.length + fuel = n → T = d ++ (goF r k kind n fuel l).1 ++ e → J d w → B0 ≤ w.heap.size → MyI B0 w.heap.size w part l →
      (∀ w', J (d ++ (goF r k kind n fuel l).1) w' → ModR 0 B0 w w' → K (goF r k kind n fuel l).2 w') →
      Fc Try.prog F_impl_free #[.int .i64 n, .int .i64 k, .int .i64 kind, part, f] w (.one .bool) K
  | fuel, l, part, d, e, w, K, hlen, hT, hJ, hB, hm, hK => by
    refine walk_impl_free _ _ _ _ _ ?_
    have hhead : ∃ t, (goF r k kind n fuel l).1 = l :: t := by
      unfold goF
      split
      · split
        · exact ⟨[], rfl⟩
        · split <;> exact ⟨_, rfl⟩
      · exact ⟨[], rfl⟩
    obtain ⟨t, ht⟩ := hhead
    refine hcall d l (t ++ e) (by rw [hT, ht]; simp) (by omega) part w _ hJ hm fun w1 hJ1 mr1 => ?_
    have hm1 := hm.modr mr1 (by omega)
    have hs1 := mr1.size
    refine ⟨fun hr => ?_, fun hr => ?_⟩
    · have hr := not_t hr
      have e1 : goF r k kind n fuel l = ([l], false) := by unfold goF; rw [hr]; rfl
      rw [e1] at hK
      exact hK w1 hJ1 mr1
    have hr := not_f hr
    refine c_impl_sizeS hm1.sl ⟨fun he => ?_, fun hne => ?_⟩
    · have he := eq_t he
      have e1 : goF r k kind n fuel l = ([l], true) := by unfold goF; rw [if_pos hr, if_pos (by omega)]
      rw [e1] at hK
      exact hK w1 hJ1 mr1
    have hne := eq_f hne
    match fuel, hlen, hT, hK, ht with
    | 0, hlen, _, _, _ => omega
    | fuel + 1, hlen, hT, hK, ht =>
      have e1 : goF r k kind n (fuel + 1) l = (l :: (goL (goF r k kind n fuel) ((nextL l kind k.toNat).map fun c => l ++ [c])).1, (goL (goF r k kind n fuel) ((nextL l kind k.toNat).map fun c => l ++ [c])).2) := by
        rw [goF]; rw [if_pos hr, if_neg (by omega)]
      rw [e1] at hK hT
      obtain ⟨go, hgo⟩ : ∃ go, goF r k kind n fuel = go := ⟨_, rfl⟩
      rw [hgo] at hK hT
      -- the colours that are still to come
      let rest : Nat → List (List Int) := fun c => (((List.range k.toNat).drop c).filter fun c : Nat => decide (fz (l ++ [(c : Int)]) kind (l.length + 1) l.length = [])).map fun c : Nat => l ++ [(c : Int)]
      have hrest : ∀ c : Nat, c < k.toNat → rest c = (if fz (l ++ [(c : Int)]) kind (l.length + 1) l.length = [] then [l ++ [(c : Int)]] else []) ++ rest (c + 1) := fun c hc => by
        show List.map _ (List.filter _ ((List.range k.toNat).drop c)) = _
        rw [List.drop_eq_getElem_cons (by simpa using hc), List.getElem_range]
        by_cases h : fz (l ++ [(c : Int)]) kind (l.length + 1) l.length = []
        · rw [List.filter_cons_of_pos (by simpa using h), if_pos h]; rfl
        · rw [List.filter_cons_of_neg (by simpa using h), if_neg h]; rfl
      have hrest0 : rest 0 = (nextL l kind k.toNat).map fun c => l ++ [c] := by
        show List.map _ (List.filter _ ((List.range k.toNat).drop 0)) = _
        rw [List.drop_zero, nextL, List.map_map]
        rfl
      rw [← hrest0] at hK hT
      refine lp (fun c w' => 0 ≤ c ∧ c ≤ k ∧ ModR 0 B0 w w' ∧ ∃ d' : List (List Int), J d' w' ∧ d ++ l :: (goL go (rest 0)).1 = d' ++ (goL go (rest c.toNat)).1 ∧ (goL go (rest 0)).2 = (goL go (rest c.toNat)).2)
        (fun c _ => (k - c).toNat) ⟨by omega, by omega, mr1, d ++ [l], hJ1, by simp, rfl⟩ ?_
      rintro c w2 N ⟨c0, c1, mr2, d', hJ2, hd, hb⟩ hN
      unfold B_impl_free_6
      have hs2 := mr2.size
      have hm2 := hm.modr mr2 (by omega)
      refine ⟨fun hlt => ?_, fun hge => ?_⟩
      · have hlt := dec_t hlt
        have hcc : ((c.toNat : Nat) : Int) = c := by omega
        have hrc := hrest c.toNat (by omega)
        rw [hcc] at hrc
        refine c_slices_Clone_int64_int64 hm2.sl (by omega) fun v w3 hb3 hv => ?_
        have hs3 := hb3.size
        -- the copy, and the colour at its end
        have happ : ∀ (K' : Value → World → Prop), (∀ v' w5, Below w2.heap.size w2 w5 → MyI B0 w5.heap.size w5 v' (l ++ [c]) → K' v' w5) →
            Pr Try.prog (Instr.buildSlice tSI 1 #[(0, .int .i64 c)]) w3 (.one .any) fun y w4 => Pr Try.prog (Builtin.append_ #[tSI, tSI] tSI #[v, y]) w4 (.one .any) K' := fun K' hK' => by
          rcases hv with ⟨_, ⟨rfl, hnil⟩ | ⟨b, hbB, hbE, ho⟩⟩
          · refine mk1 ySI rfl fun b1 w4 n4 ho4 => app_nil ySI 1 (ys := iv [c]) ho4.sl (by simp) (by omega) (by omega) fun v' w5 b' o m hb' => ?_
            have hs4 := n4.below.size
            refine hK' v' w5 ((hb3.trans (n4.below.mono hs3)).trans (m.below (by omega) (by simp))) (own_my (b := b') ?_ (by simp; omega) (by omega) o.lt)
            rw [hnil]
            exact o
          · refine appI ho (by omega) fun v' w5 b' o m hb' => ?_
            exact hK' v' w5 (hb3.trans (m.below (by omega) (by simp; omega))) (own_my o (by simp; omega) (by omega) o.lt)
        refine happ _ fun v' w5 hb5 hv' => ?_
        have hs5 := hb5.size
        have hL : (l ++ [c]).length = l.length + 1 := by simp
        refine c_impl_goesOn hv'.sl (by rw [hL]; omega) hkind fun w6 hb6 => ?_
        have hb26 := hb5.trans (hb6.mono hs5)
        have hs6 := hb6.size
        have mr6 : ModR 0 B0 w w6 := mr2.trans (below_modr hb26)
        have hJ6 := hst _ _ _ hJ2 hb26
        have hv6 := (hv'.keep hb6).mono (Nat.le_refl _) hb6.size
        have hnext : N (n, k, kind, part, f, k) (IntKind.i64.wrap (c + 1)) = N (n, k, kind, part, f, k) (c + 1) := by rw [wrap_small (by omega) (by omega)]
        rw [hL, show ((l.length + 1 : Nat) : Int) = (l.length : Int) + 1 from by omega, show l.length + 1 - 1 = l.length from by omega]
        refine ⟨fun hg => ?_, fun hg => ?_⟩
        · have hg := dec_t hg
          rw [if_pos hg] at hrc
          have hrec := c_impl_free r J B0 T hk hkind hn hst hcall fuel (l ++ [c]) v' d' ((if (go (l ++ [c])).2 then (goL go (rest (c.toNat + 1))).1 else []) ++ e) w6
          rw [hgo] at hrec
          refine hrec _ (by rw [hL]; omega) ?_ hJ6 (by omega) hv6 fun w7 hJ7 mr7 => ?_
          · rw [hT, hd, hrc]
            simp only [List.singleton_append, goL]
            split <;> simp
          · rw [hrc] at hd hb
            simp only [List.singleton_append, goL] at hd hb
            refine ⟨fun hx => ?_, fun hx => ?_⟩
            · have hx := not_t hx
              intro _
              rw [hx] at hd hb
              have := hK w7 (by rw [hd]; exact hJ7) (mr6.trans mr7)
              rw [hb] at this
              exact this
            · have hx := not_f hx
              rw [hx] at hd hb
              rw [hnext]
              refine hN _ _ ⟨by omega, by omega, mr6.trans mr7, _, hJ7, ?_, ?_⟩ (by omega)
              · rw [hd, show (c + 1).toNat = c.toNat + 1 from by omega]; simp
              · rw [hb, show (c + 1).toNat = c.toNat + 1 from by omega]; simp
        · have hg := dec_f hg
          rw [if_neg hg, List.nil_append] at hrc
          rw [hnext]
          refine hN _ _ ⟨by omega, by omega, mr6, d', hJ6, ?_, ?_⟩ (by omega)
          · rw [hd, show (c + 1).toNat = c.toNat + 1 from by omega, hrc]
          · rw [hb, show (c + 1).toNat = c.toNat + 1 from by omega, hrc]
      · have hge := dec_f hge
        have : c = k := by omega
        subst this
        intro _
        have hend : rest c.toNat = [] := by
          show List.map _ (List.filter _ ((List.range c.toNat).drop c.toNat)) = _
          rw [List.drop_of_length_le (by simp)]
          rfl
        rw [hend] at hd hb
        simp only [goL, List.append_nil] at hd hb
        have := hK w2 (by rw [hd]; exact hJ2) mr2
        rw [hb] at this
        exact this

end Go.Proofs.Ytlbhpbaeokgmaaa

/- The reading of impl_CountFree, and its contract. No condition. -/
namespace Go.Proofs.Ytlbhpbaeokgmaaa
open Go Go.RowKit Eng Mem
set_option linter.unusedVariables false
set_option maxRecDepth 100000
def V_impl_CountFree (n0 : Int) (k1 : Int) (kind2 : Int) (w : World) (K : (Int × Int) → World → Prop) : Prop :=
  (Pr Try.prog (Instr.box 2 (.int .i64 n0)) w (.one .any) fun (n3_2 : Value) w_1 => (QSub Try.prog (Instr.loadAt 2 n3_2) w_1 (.int .i64) fun (x9_3 : Int) => (Fc Try.prog 47 #[(.int .i64 x9_3), (.int .i64 (0 : Int)), (.int .i64 (12 : Int))] w_1 (.one .bool) fun (x10_5 : Bool) w_4 => (((!x10_5) = true → K ((0 : Int), (2 : Int)) w_4) ∧ ((!x10_5) = false → (Fc Try.prog 47 #[(.int .i64 k1), (.int .i64 (1 : Int)), (.int .i64 (3 : Int))] w_4 (.one .bool) fun (x14_7 : Bool) w_6 => (((!x14_7) = true → K ((0 : Int), (2 : Int)) w_6) ∧ ((!x14_7) = false → (Fc Try.prog 49 #[(.int .i64 kind2)] w_6 (.one .bool) fun (x19_9 : Bool) w_8 => (((!x19_9) = true → K ((0 : Int), (2 : Int)) w_8) ∧ ((!x19_9) = false → (Pr Try.prog (Instr.alloc 2 true (.tuple #[])) w_8 (.one .any) fun (many8_11 : Value) w_10 => (PrU Try.prog (Instr.storeAt 2 many8_11 (.int .i64 (0 : Int))) w_10 fun w_12 => (QSub Try.prog (Instr.loadAt 2 n3_2) w_12 (.int .i64) fun (x22_14 : Int) => (Fc Try.prog 50 #[(.int .i64 x22_14), (.int .i64 k1), (.int .i64 kind2), (.slice none 0 0), (.func (.func 57) #[] #[n3_2, many8_11])] w_12 (.one .bool) fun (x26_16 : Bool) w_15 => (QSub Try.prog (Instr.loadAt 2 many8_11) w_15 (.int .i64) fun (x27_17 : Int) => K (x27_17, (0 : Int)) w_15))))))))))))))))

theorem eq_impl_CountFree (n0 : Int) (k1 : Int) (kind2 : Int) (w : World) (K : (Int × Int) → World → Prop) :
    W Try.prog ty (fun _ _ _ _ => False) (bodyOf Try.f23) (fnPost Try.prog Try.f23.results.toList (.two (.int .i64) (.int .i64)) K) (frame0 [(.int .i64 n0), (.int .i64 k1), (.int .i64 kind2)] 28) w = V_impl_CountFree n0 k1 kind2 w K := by
  kernel_rfl

theorem body_impl_CountFree : Try.f23.body = some (bodyOf Try.f23) := by kernel_rfl
theorem name_impl_CountFree : (Try.f23.name == "runtime.NumGoroutine") = false := by kernel_rfl

theorem walk_impl_CountFree (n0 : Int) (k1 : Int) (kind2 : Int) {w : World} {K : (Int × Int) → World → Prop} (h : V_impl_CountFree n0 k1 kind2 w K) : Fc Try.prog 23 #[(.int .i64 n0), (.int .i64 k1), (.int .i64 kind2)] w (.two (.int .i64) (.int .i64)) K :=
  fn_ok follows (sound_none _) Try.func23 name_impl_CountFree body_impl_CountFree Try.ntmps23 [(.int .i64 n0), (.int .i64 k1), (.int .i64 kind2)] (Eq.mpr (eq_impl_CountFree n0 k1 kind2 w K) h)

-- uses S8CF
theorem c_impl_CountFree {n k kind : Int} {w : World} {K : Int × Int → World → Prop} (_ : I64 n) (_ : I64 k) (_ : I64 kind)
    (hK : ∀ w', Below w.heap.size w w' → K ((countFree n k kind).1, (countFree n k kind).2) w') : Fc Try.prog F_impl_CountFree #[.int .i64 n, .int .i64 k, .int .i64 kind] w (.two (.int .i64) (.int .i64)) K := by
  unfold countFree at hK
  refine walk_impl_CountFree _ _ _ (box [.int .i64 n] rfl fun b1 w1 n1 => ld (k := .int .i64) yI (row_all (cs := [_]) n1.at_) (c_impl_in _ _ _ ?_))
  have k1 := hK w1 n1.below
  refine ⟨fun h => by rwa [if_neg (fun hh => notd_t h hh.1)] at k1, fun h1 => c_impl_in _ _ _ ⟨fun h => by rwa [if_neg (fun hh => notd_t h hh.2.1)] at k1, fun h2 => c_impl_isFaultKind _ ⟨fun h => by rwa [if_neg (fun hh => notd_t h hh.2.2)] at k1, fun h3 => ?_⟩⟩⟩
  have h1 := notd_f h1; have h2 := notd_f h2; have h3 := notd_f h3
  refine alloc1 yI fun b2 w2 n2 => st yI n2.at_ (by simp) rfl fun w3 m3 s3 h3' => ?_
  have e1 := n1.here; have s1 := n1.size; have e2 := n2.here; have s2 := n2.size
  have b13 : Below w1.heap.size w1 w3 := n2.below.trans (m3.below (by omega) (by simp; omega))
  have c1 : Blk w3 b1 [.int .i64 n] tI := below_at b13 n1.at_ (by omega)
  refine ld (k := .int .i64) yI (row_all (cs := [_]) c1) ?_
  obtain ⟨T, hT⟩ : ∃ T, goF (fun _ => true) k kind n.toNat n.toNat [] = T := ⟨_, rfl⟩
  have hTl := goF_len (fun _ => true) k kind h2.2 n.toNat n.toNat []
  have hTc := cnt_goF k kind n.toNat n.toNat [] (by simp)
  have h312 := pow3_12 (f := n.toNat) (by omega)
  rw [hT] at hTl hTc
  have hnn : ((n.toNat : Nat) : Int) = n := by omega
  have main := c_impl_free (f := .func (.func F_impl_CountFree_1) #[] #[ptr b1 0, ptr b2 0]) (k := k) (kind := kind) (n := n.toNat) (fun _ => true)
    (fun d w' => Below w.heap.size w w' ∧ Blk w' b1 [.int .i64 n] tI ∧ Blk w' b2 [.int .i64 (d.countP fun l : List Int => decide (l.length = n.toNat) : Nat)] tI) w3.heap.size T.1 (by omega) h3 (by omega)
    (fun d w' w'' hj hb => ⟨hj.1.trans (hb.mono hj.1.size), below_at hb hj.2.1 (at_lt hj.2.1), below_at hb hj.2.2 (at_lt hj.2.2)⟩)
    (fun d l e hd hl part w' K' hj hm hk' => by
      refine cv rfl ?_
      have hcd : d.countP (fun l => decide (l.length = n.toNat)) ≤ d.length := List.countP_le_length
      have hdl : d.length ≤ T.1.length := by rw [hd]; simp
      refine c_impl_CountFree_1 (row_all (cs := [_]) hj.2.1) hj.2.2 hm.sl (by omega) (by omega) fun w'' m hb'' => hk' w'' ⟨hj.1.trans (m.below hj.1.size (by simp; omega)), m.at_ hj.2.1 (by simp; omega), ?_⟩ (m.r (by omega) (by omega))
      rw [List.countP_append]
      simp only [List.countP_cons, List.countP_nil, Nat.zero_add]
      by_cases hln : l.length = n.toNat
      · rw [if_pos (by omega)] at hb''
        rw [if_pos (by simpa using hln)]
        exact hb''
      · rw [if_neg (by omega)] at hb''
        rw [if_neg (by simpa using hln)]
        simpa using hb'')
    n.toNat [] (.slice none 0 0) [] [] w3
  rw [hT, hnn] at main
  refine main _ (by simp) (by simp) ⟨n1.below.trans (b13.mono (by omega)), c1, by simpa using h3'⟩ (Nat.le_refl _) (myI_nil _ _ _) fun w4 hj mr => ?_
  refine ld (k := .int .i64) yI (row_all (cs := [_]) hj.2.2) ?_
  have := hK w4 hj.1
  rw [if_pos ⟨h1, h2, h3⟩] at this
  rw [List.nil_append, hTc.2]
  exact this

end Go.Proofs.Ytlbhpbaeokgmaaa

/- The reading of impl_FirstFault, and its contract. No condition. -/
namespace Go.Proofs.Ytlbhpbaeokgmaaa
open Go Go.RowKit Eng Mem
set_option linter.unusedVariables false
set_option maxRecDepth 100000
def V_impl_FirstFault (k0 : Int) (part1 : Value) (kind2 : Int) (w : World) (K : (Value × Int) → World → Prop) : Prop :=
  (Fc Try.prog 36 #[(.int .i64 k0), part1, (.int .i64 kind2)] w (.one (.int .i64)) fun (x13_2 : Int) w_1 => (((x13_2 != (0 : Int)) = true → K (((.slice none 0 0) : Value), x13_2) w_1) ∧ ((x13_2 != (0 : Int)) = false → (Fc Try.prog 37 #[part1, (.int .i64 kind2)] w_1 (.one .any) fun (x19_4 : Value) w_3 => (QAll Try.prog (Builtin.len_ #[52] 3 #[x19_4]) (.int .i64) fun (x21_5 : Int) => (((x21_5 == (0 : Int)) = true → K (((.slice none 0 0) : Value), (4 : Int)) w_3) ∧ ((x21_5 == (0 : Int)) = false → (QAll Try.prog (Instr.indexAt 52 x19_4 (.int .i64 (0 : Int))) .any fun (x24_6 : Value) => (QSub Try.prog (Instr.loadAt 24 x24_6) w_3 .any fun (x25_7 : Value) => K ((x25_7 : Value), (0 : Int)) w_3)))))))))

theorem eq_impl_FirstFault (k0 : Int) (part1 : Value) (kind2 : Int) (w : World) (K : (Value × Int) → World → Prop) :
    W Try.prog ty (fun _ _ _ _ => False) (bodyOf Try.f8) (fnPost Try.prog Try.f8.results.toList (.two .any (.int .i64)) K) (frame0 [(.int .i64 k0), part1, (.int .i64 kind2)] 26) w = V_impl_FirstFault k0 part1 kind2 w K := by
  kernel_rfl

theorem body_impl_FirstFault : Try.f8.body = some (bodyOf Try.f8) := by kernel_rfl
theorem name_impl_FirstFault : (Try.f8.name == "runtime.NumGoroutine") = false := by kernel_rfl

theorem walk_impl_FirstFault (k0 : Int) (part1 : Value) (kind2 : Int) {w : World} {K : (Value × Int) → World → Prop} (h : V_impl_FirstFault k0 part1 kind2 w K) : Fc Try.prog 8 #[(.int .i64 k0), part1, (.int .i64 kind2)] w (.two .any (.int .i64)) K :=
  fn_ok follows (sound_none _) Try.func8 name_impl_FirstFault body_impl_FirstFault Try.ntmps8 [(.int .i64 k0), part1, (.int .i64 kind2)] (Eq.mpr (eq_impl_FirstFault k0 part1 kind2 w K) h)

-- uses S7Circ
theorem c_impl_FirstFault {k kind : Int} {a : Value} {l : List Int} {w : World} {K : Value × Int → World → Prop} (_ : I64 k) (ha : ArgI w a l) (_ : I64 kind)
    (hK : ∀ w' v, Below w.heap.size w w' → MyI w.heap.size w'.heap.size w' v (firstF k l kind).1 → K (v, (firstF k l kind).2) w') : Fc Try.prog F_impl_FirstFault #[.int .i64 k, a, .int .i64 kind] w (.two .any (.int .i64)) K := by
  unfold firstF at hK
  refine walk_impl_FirstFault _ _ _ (c_impl_partCode ha.sl fun w1 hb1 => ?_)
  by_cases h : IsPart k l ∧ 0 ≤ kind ∧ kind ≤ 2
  · rw [if_pos h] at hK ⊢
    have hl := h.1.2.2.1
    refine ⟨fun e => absurd rfl (ne_t e), fun _ => c_impl_faults (ha.sl.keep hb1) (by omega) h.2 fun w2 v b hb2 hB hm => hm.len_eq ?_⟩
    have hb := hb1.trans (hb2.mono hb1.size)
    have ht3 := faR_triples l kind 0 l.length
    cases hc : faR l kind 0 l.length with
    | nil =>
      rw [hc] at hK
      exact ⟨fun _ => hK w2 _ hb (myI_nil _ _ _), fun e => absurd rfl (eq_f e)⟩
    | cons t r =>
      rw [hc] at hK hm ht3
      refine ⟨fun e => by have := eq_t e; simp at this; omega, fun _ => ?_⟩
      obtain ⟨vs, ho, hi⟩ := hm
      have hvl : vs.length = (t :: r).length := by have := ho.len; omega
      have h0 : 0 < vs.length := by rw [hvl]; simp
      obtain ⟨c, hc1, hu⟩ := hi 0 vs[0] t (by simp [h0]) rfl
      refine ixS ySSI ho.sl (by omega) (by simpa using h0) fun p hp => ld (k := .any) (x := vs[0]) y1SI (hp [vs[0]] fun j hj => ?_) ?_
      · have : j = 0 := by simp at hj; exact hj
        subst this
        simp [h0]
      · have hs1 := hb1.size
        exact hK w2 _ hb (own_my hu (by have := ht3 t (by simp); show t.length ≤ _; omega) (by omega) hu.lt)
  · rw [if_neg h] at hK ⊢
    exact ⟨fun _ => hK w1 _ hb1 (myI_nil _ _ _), fun e => absurd (ne_f e) (by omega)⟩

end Go.Proofs.Ytlbhpbaeokgmaaa

/- The reading of impl_FirstFree_1, and its contract. No condition. -/
namespace Go.Proofs.Ytlbhpbaeokgmaaa
open Go Go.RowKit Eng Mem
set_option linter.unusedVariables false
set_option maxRecDepth 100000
def V_impl_FirstFree_1 (part0 : Value) (x1 : Value) (x2 : Value) (w : World) (K : Bool → World → Prop) : Prop :=
  (∀ w_1, Drew w w_1 → (QSub Try.prog (Instr.loadAt 2 x1) w_1 (.int .i64) fun (x7_2 : Int) => (Fc Try.prog 52 #[part0] w_1 (.one (.int .i64)) fun (x6_4 : Int) w_3 => (Keeps w_1 w_3 ((((decide (x6_4 < x7_2)) = true → K true w_3) ∧ ((decide (x6_4 < x7_2)) = false → (PrU Try.prog (Instr.storeAt 24 x2 part0) w_3 fun w_5 => K false w_5))))))))

theorem eq_impl_FirstFree_1 (part0 : Value) (x1 : Value) (x2 : Value) (w : World) (K : Bool → World → Prop) :
    W Try.prog ty (fun _ _ _ _ => False) (bodyOf Try.f51) (fnPost Try.prog Try.f51.results.toList (.one .bool) K) (frame0 [part0, x1, x2] 10) w = V_impl_FirstFree_1 part0 x1 x2 w K := by
  kernel_rfl

theorem body_impl_FirstFree_1 : Try.f51.body = some (bodyOf Try.f51) := by kernel_rfl
theorem name_impl_FirstFree_1 : (Try.f51.name == "runtime.NumGoroutine") = false := by kernel_rfl

theorem walk_impl_FirstFree_1 (part0 : Value) (x1 : Value) (x2 : Value) {w : World} {K : Bool → World → Prop} (h : V_impl_FirstFree_1 part0 x1 x2 w K) : Fc Try.prog 51 #[part0, x1, x2] w (.one .bool) K :=
  fn_ok follows (sound_none _) Try.func51 name_impl_FirstFree_1 body_impl_FirstFree_1 Try.ntmps51 [part0, x1, x2] (Eq.mpr (eq_impl_FirstFree_1 part0 x1 x2 w K) h)

-- uses S8Find
theorem c_impl_FirstFree_1 {p : Value} {bo : Nat} {part v : Value} {l : List Int} {n : Int} {w : World} {K : Bool → World → Prop} (hp : Cell w p (.int .i64 n)) (hm : Blk w bo [v] tSI) (hs : SlI w part l)
    (hK : ∀ w', Mod [bo] w w' → Blk w' bo [if (l.length : Int) < n then v else part] tSI → K (decide ((l.length : Int) < n)) w') : Fc Try.prog F_impl_FirstFree_1 #[part, p, ptr bo 0] w (.one .bool) K := by
  refine walk_impl_FirstFree_1 _ _ _ ?_
  intro w1 hd
  have hb := hd.below w.heap.size
  have hm1 : Blk w1 bo [v] tSI := below_at hb hm (at_lt hm)
  have h1 : part.oneCell' = true := by
    obtain ⟨a, n, c, rfl, _⟩ := hs.sl
    rfl
  refine ld (k := .int .i64) yI (hp.keep hb) (c_impl_sizeS (hs.keep hb) ⟨Below.refl _ _, fun he => ?_, fun hne => ?_⟩)
  · have he := dec_t he
    have := hK w1 (mod_of_below hb _) (by rw [if_pos he]; exact hm1)
    rwa [decide_eq_true he] at this
  · have hne := dec_f hne
    refine st y1SI hm1 (by simp) h1 fun w2 m2 s2 h2 => ?_
    have := hK w2 ((mod_of_below hb _).trans m2) (by rw [if_neg hne]; exact h2)
    rwa [decide_eq_false hne] at this

end Go.Proofs.Ytlbhpbaeokgmaaa

/- The reading of impl_FirstFree, and its contract. No condition. -/
namespace Go.Proofs.Ytlbhpbaeokgmaaa
open Go Go.RowKit Eng Mem
set_option linter.unusedVariables false
set_option maxRecDepth 100000
def V_impl_FirstFree (n0 : Int) (k1 : Int) (kind2 : Int) (w : World) (K : (Value × Int) → World → Prop) : Prop :=
  (Pr Try.prog (Instr.box 2 (.int .i64 n0)) w (.one .any) fun (n3_2 : Value) w_1 => (QSub Try.prog (Instr.loadAt 2 n3_2) w_1 (.int .i64) fun (x10_3 : Int) => (Fc Try.prog 47 #[(.int .i64 x10_3), (.int .i64 (0 : Int)), (.int .i64 (14 : Int))] w_1 (.one .bool) fun (x11_5 : Bool) w_4 => (((!x11_5) = true → K (((.slice none 0 0) : Value), (2 : Int)) w_4) ∧ ((!x11_5) = false → (Fc Try.prog 47 #[(.int .i64 k1), (.int .i64 (1 : Int)), (.int .i64 (3 : Int))] w_4 (.one .bool) fun (x15_7 : Bool) w_6 => (((!x15_7) = true → K (((.slice none 0 0) : Value), (2 : Int)) w_6) ∧ ((!x15_7) = false → (Fc Try.prog 49 #[(.int .i64 kind2)] w_6 (.one .bool) fun (x20_9 : Bool) w_8 => (((!x20_9) = true → K (((.slice none 0 0) : Value), (2 : Int)) w_8) ∧ ((!x20_9) = false → (Pr Try.prog (Instr.buildSlice 24 0 #[]) w_8 (.one .any) fun (x23_11 : Value) w_10 => (Pr Try.prog (Instr.alloc 24 true (.tuple #[])) w_10 (.one .any) fun (out8_13 : Value) w_12 => (PrU Try.prog (Instr.storeAt 24 out8_13 x23_11) w_12 fun w_14 => (QSub Try.prog (Instr.loadAt 2 n3_2) w_14 (.int .i64) fun (x24_16 : Int) => (Fc Try.prog 50 #[(.int .i64 x24_16), (.int .i64 k1), (.int .i64 kind2), (.slice none 0 0), (.func (.func 51) #[] #[n3_2, out8_13])] w_14 (.one .bool) fun (x28_18 : Bool) w_17 => ((x28_18 = true → K (((.slice none 0 0) : Value), (4 : Int)) w_17) ∧ (x28_18 = false → (QSub Try.prog (Instr.loadAt 24 out8_13) w_17 .any fun (x30_19 : Value) => K ((x30_19 : Value), (0 : Int)) w_17)))))))))))))))))))

theorem eq_impl_FirstFree (n0 : Int) (k1 : Int) (kind2 : Int) (w : World) (K : (Value × Int) → World → Prop) :
    W Try.prog ty (fun _ _ _ _ => False) (bodyOf Try.f20) (fnPost Try.prog Try.f20.results.toList (.two .any (.int .i64)) K) (frame0 [(.int .i64 n0), (.int .i64 k1), (.int .i64 kind2)] 31) w = V_impl_FirstFree n0 k1 kind2 w K := by
  kernel_rfl

theorem body_impl_FirstFree : Try.f20.body = some (bodyOf Try.f20) := by kernel_rfl
theorem name_impl_FirstFree : (Try.f20.name == "runtime.NumGoroutine") = false := by kernel_rfl

theorem walk_impl_FirstFree (n0 : Int) (k1 : Int) (kind2 : Int) {w : World} {K : (Value × Int) → World → Prop} (h : V_impl_FirstFree n0 k1 kind2 w K) : Fc Try.prog 20 #[(.int .i64 n0), (.int .i64 k1), (.int .i64 kind2)] w (.two .any (.int .i64)) K :=
  fn_ok follows (sound_none _) Try.func20 name_impl_FirstFree body_impl_FirstFree Try.ntmps20 [(.int .i64 n0), (.int .i64 k1), (.int .i64 kind2)] (Eq.mpr (eq_impl_FirstFree n0 k1 kind2 w K) h)

-- uses S8Find
theorem c_impl_FirstFree {n k kind : Int} {w : World} {K : Value × Int → World → Prop} (_ : I64 n) (_ : I64 k) (_ : I64 kind)
    (hK : ∀ w' v, Below w.heap.size w w' → MyI w.heap.size w'.heap.size w' v (firstFree n k kind).1 → K (v, (firstFree n k kind).2) w') : Fc Try.prog F_impl_FirstFree #[.int .i64 n, .int .i64 k, .int .i64 kind] w (.two .any (.int .i64)) K := by
  unfold firstFree at hK
  refine walk_impl_FirstFree _ _ _ (box [.int .i64 n] rfl fun b1 w1 n1 => ld (k := .int .i64) yI (row_all (cs := [_]) n1.at_) (c_impl_in _ _ _ ?_))
  have k1 := fun v => hK w1 v n1.below
  refine ⟨fun h => by rw [if_neg (fun hh => notd_t h hh.1)] at k1; exact k1 _ (myI_nil _ _ _), fun h1 => c_impl_in _ _ _ ⟨fun h => by rw [if_neg (fun hh => notd_t h hh.2.1)] at k1; exact k1 _ (myI_nil _ _ _), fun h2 => c_impl_isFaultKind _ ⟨fun h => by rw [if_neg (fun hh => notd_t h hh.2.2)] at k1; exact k1 _ (myI_nil _ _ _), fun h3 => ?_⟩⟩⟩
  have h1 := notd_f h1; have h2 := notd_f h2; have h3 := notd_f h3
  clear k1
  refine nilI fun b0 v0 w2 hb2 hbel2 ho2 => alloc1 y1SI fun bo w3 n3 => st y1SI n3.at_ (by simp) (own_one ho2).1 fun w4 m4 s4 h4 => ?_
  have e1 := n1.here; have s1 := n1.size; have hs2 := hbel2.size; have e3 := n3.here; have s3 := n3.size
  have b24 : Below w2.heap.size w2 w4 := n3.below.trans (m4.below (by omega) (by simp; omega))
  have c1 : Blk w4 b1 [.int .i64 n] tI := below_at b24 (below_at hbel2 n1.at_ (by omega)) (by have := at_lt n1.at_; omega)
  refine ld (k := .int .i64) yI (row_all (cs := [_]) c1) ?_
  have q4 : Below w.heap.size w w4 := (n1.below.trans (hbel2.mono (by omega))).trans (b24.mono (by omega))
  obtain ⟨T, hT⟩ : ∃ T, goF (fun l => decide (l.length < n.toNat)) k kind n.toNat n.toNat [] = T := ⟨_, rfl⟩
  have hst := stops_goF k kind n.toNat n.toNat [] (by simp)
  rw [hT] at hst
  have hnn : ((n.toNat : Nat) : Int) = n := by omega
  have hs4 := b24.size
  have hmy0 : MyI w.heap.size w4.heap.size w4 v0 [] := own_my (ho2.keep b24) (by simp) (by omega) (ho2.keep b24).lt
  have main := c_impl_free (f := .func (.func F_impl_FirstFree_1) #[] #[ptr b1 0, ptr bo 0]) (k := k) (kind := kind) (n := n.toNat) (fun l => decide (l.length < n.toNat))
    (fun d w' => Below w.heap.size w w' ∧ w4.heap.size ≤ w'.heap.size ∧ Blk w' b1 [.int .i64 n] tI ∧ ∃ v, Blk w' bo [v] tSI ∧ MyI w.heap.size w'.heap.size w' v (outOf n.toNat d)) w4.heap.size T.1 (by omega) h3 (by omega)
    (fun d w' w'' hj hb => by
      obtain ⟨j1, j2, j3, v, j4, j5⟩ := hj
      have hz := hb.size
      exact ⟨j1.trans (hb.mono j1.size), by omega, below_at hb j3 (at_lt j3), v, below_at hb j4 (at_lt j4), (j5.keep hb).mono (Nat.le_refl _) hz⟩)
    (fun d l e hd hl part w' K' hj hm hk' => by
      obtain ⟨j1, j2, j3, v, j4, j5⟩ := hj
      refine cv rfl (c_impl_FirstFree_1 (row_all (cs := [_]) j3) j4 hm.sl fun w'' m hb'' => ?_)
      have hz := m.size
      have hmr : ModR bo (bo + 1) w' w'' := m.r (Nat.le_refl _) (by omega)
      have hne1 := blk_ne j3 j4 (by decide)
      -- the slices do not lie in the variable's block
      have own_keep : ∀ {B : Nat} {v : Value} {l : List Int}, MyI B w'.heap.size w' v l → MyI B w''.heap.size w'' v l := fun {B v l} h => by
        rcases h with ⟨hl, h | ⟨b, hB, hE, h⟩⟩
        · exact ⟨hl, .inl h⟩
        · obtain ⟨_, hbb⟩ := own_blk h
          exact ⟨hl, .inr ⟨b, hB, by omega, h.mod m (by simp; exact blk_ne hbb j4 (by decide))⟩⟩
      have := hk' w'' ⟨j1.trans (m.below j1.size (by simp; omega)), by omega, m.at_ j3 (by simp; exact hne1), _, hb'', ?_⟩ (m.r (by omega) (by have := m4.size; omega))
      · have e : decide ((l.length : Int) < n) = decide (l.length < n.toNat) := by rw [Bool.eq_iff_iff]; simp only [decide_eq_true_iff]; omega
        rw [e]; exact this
      · rw [outOf_snoc]
        by_cases hln : l.length = n.toNat
        · rw [if_pos hln, if_neg (by omega)]
          exact (own_keep hm).mono (by omega) (Nat.le_refl _)
        · rw [if_neg hln, if_pos (by omega)]
          exact own_keep j5)
    n.toNat [] (.slice none 0 0) [] [] w4
  rw [hT, hnn] at main
  refine main _ (by simp) (by simp) ⟨q4, Nat.le_refl _, c1, v0, h4, hmy0⟩ (Nat.le_refl _) (myI_nil _ _ _) fun w5 hj mr => ?_
  obtain ⟨j1, j2, j3, v, j4, j5⟩ := hj
  rw [List.nil_append] at j5
  have kk := fun v => hK w5 v j1
  rw [if_pos ⟨h1, h2, h3⟩] at kk
  cases hf : findF k kind n.toNat n.toNat [] with
  | none =>
    rw [hf] at hst kk
    rw [hst.1]
    exact ⟨fun _ => kk _ (myI_nil _ _ _), fun h => Bool.noConfusion h⟩
  | some p =>
    rw [hf] at hst kk
    obtain ⟨a, e, he, hn⟩ := hst
    rw [a]
    refine ⟨fun h => Bool.noConfusion h, fun _ => ld (k := .any) (x := v) y1SI (row_all (cs := [_]) j4) ?_⟩
    rw [he, outOf_snoc, if_pos (findF_len hf)] at j5
    exact kk v j5

end Go.Proofs.Ytlbhpbaeokgmaaa

/- The greatest number of a free part. No condition. -/
namespace Go.Proofs.Ytlbhpbaeokgmaaa
open Go Go.RowKit Eng Mem
abbrev allV (k kind : Int) (n f : Nat) (l : List Int) : List (List Int) := (goF (fun _ => true) k kind n f l).1
theorem mem_goL {go : List Int → List (List Int) × Bool} {p : List Int} : ∀ xs : List (List Int), (∀ x ∈ xs, (go x).2 = true) → (p ∈ (goL go xs).1 ↔ ∃ x ∈ xs, p ∈ (go x).1)
  | [], _ => by simp [goL]
  | x :: xs, h => by
    have h1 := h x (by simp)
    have h2 := mem_goL (p := p) xs fun y hy => h y (by simp [hy])
    unfold goL
    rw [if_pos h1]
    simp only [List.mem_append, h2, List.mem_cons, exists_eq_or_imp]
theorem mem_allV {k kind : Int} {n f : Nat} {l p : List Int} (h : l.length + (f + 1) = n) : p ∈ allV k kind n (f + 1) l ↔ p = l ∨ ∃ c ∈ nextL l kind k.toNat, p ∈ allV k kind n f (l ++ [c]) := by
  have e : allV k kind n (f + 1) l = l :: (goL (goF (fun _ => true) k kind n f) ((nextL l kind k.toNat).map fun c => l ++ [c])).1 := by
    unfold allV
    rw [goF, if_pos rfl, if_neg (by omega)]
  rw [e, List.mem_cons, mem_goL _ fun x hx => by
    obtain ⟨c, _, rfl⟩ := List.mem_map.1 hx
    exact (cnt_goF k kind n f _ (by simp; omega)).1]
  constructor
  · rintro (h | ⟨x, hx, hp⟩)
    · exact .inl h
    · obtain ⟨c, hc, rfl⟩ := List.mem_map.1 hx
      exact .inr ⟨c, hc, hp⟩
  · rintro (h | ⟨c, hc, hp⟩)
    · exact .inl h
    · exact .inr ⟨_, List.mem_map.2 ⟨c, hc, rfl⟩, hp⟩
theorem mem_allV0 {k kind : Int} {n : Nat} {l p : List Int} (h : l.length = n) : p ∈ allV k kind n 0 l ↔ p = l := by
  unfold allV
  rw [goF, if_pos rfl, if_pos h]
  simp
theorem find_iff (k kind : Int) (n m : Nat) (hm : m ≤ n) : ∀ (f : Nat) (l : List Int), l.length + f = n → l.length ≤ m → ((findF k kind m (m - l.length) l).isSome = true ↔ ∃ p ∈ allV k kind n f l, p.length = m)
  | 0, l, h, hl => by
    have : m = l.length := by omega
    subst this
    simp only [mem_allV0 h, exists_eq_left]
    rw [Nat.sub_self, findF, if_pos rfl]
    simp
  | f + 1, l, h, hl => by
    by_cases he : l.length = m
    · constructor
      · intro _; exact ⟨l, (mem_allV h).2 (.inl rfl), he⟩
      · intro _
        rw [show m - l.length = 0 from by omega, findF, if_pos he]; rfl
    · obtain ⟨g, hg⟩ : ∃ g, m - l.length = g + 1 := ⟨m - l.length - 1, by omega⟩
      rw [hg, findF, if_neg he, List.findSome?_isSome_iff]
      have ih := fun c => find_iff k kind n m hm f (l ++ [c]) (by simp; omega) (by simp; omega)
      have hgl : ∀ c : Int, m - (l ++ [c]).length = g := fun c => by simp; omega
      constructor
      · rintro ⟨x, hx, hs⟩
        obtain ⟨c, hc, rfl⟩ := List.mem_map.1 hx
        have := ih c
        rw [hgl c] at this
        obtain ⟨p, hp, hpl⟩ := this.1 hs
        exact ⟨p, (mem_allV h).2 (.inr ⟨c, hc, hp⟩), hpl⟩
      · rintro ⟨p, hp, hpl⟩
        rcases (mem_allV h).1 hp with rfl | ⟨c, hc, hp⟩
        · exact absurd hpl he
        · have := ih c
          rw [hgl c] at this
          exact ⟨_, List.mem_map.2 ⟨c, hc, rfl⟩, this.2 ⟨p, hp, hpl⟩⟩
theorem less_too (k kind : Int) (n : Nat) : ∀ (f : Nat) (l : List Int), l.length + f = n → ∀ p ∈ allV k kind n f l, ∀ m, l.length ≤ m → m ≤ p.length → ∃ q ∈ allV k kind n f l, q.length = m
  | 0, l, h, p, hp, m, h1, h2 => by
    have := (mem_allV0 h).1 hp
    subst this
    exact ⟨p, hp, by omega⟩
  | f + 1, l, h, p, hp, m, h1, h2 => by
    by_cases he : l.length = m
    · exact ⟨l, (mem_allV h).2 (.inl rfl), he⟩
    · rcases (mem_allV h).1 hp with rfl | ⟨c, hc, hp⟩
      · omega
      · obtain ⟨q, hq, hl⟩ := less_too k kind n f (l ++ [c]) (by simp; omega) p hp m (by simp; omega) h2
        exact ⟨q, (mem_allV h).2 (.inr ⟨c, hc, hq⟩), hl⟩
theorem len_le (k kind : Int) (n : Nat) : ∀ (f : Nat) (l : List Int), l.length + f = n → ∀ p ∈ allV k kind n f l, p.length ≤ n
  | 0, l, h, p, hp => by have := (mem_allV0 h).1 hp; subst this; omega
  | f + 1, l, h, p, hp => by
    rcases (mem_allV h).1 hp with rfl | ⟨c, hc, hp⟩
    · omega
    · exact len_le k kind n f (l ++ [c]) (by simp; omega) p hp
/-- The greatest length met. -/
def mostL (d : List (List Int)) : Nat := d.foldl (fun m l => max m l.length) 0
theorem mostL_snoc (d : List (List Int)) (l : List Int) : mostL (d ++ [l]) = max (mostL d) l.length := by simp [mostL]
theorem foldl_max (n : Nat) : ∀ (d : List (List Int)) (a : Nat), d.foldl (fun m l => max m l.length) a ≤ n ↔ a ≤ n ∧ ∀ p ∈ d, p.length ≤ n
  | [], a => by simp
  | x :: d, a => by
    rw [List.foldl_cons, foldl_max n d]
    simp only [List.mem_cons, forall_eq_or_imp]
    rw [Nat.max_le, and_assoc]
theorem mostL_le {n : Nat} {d : List (List Int)} : mostL d ≤ n ↔ ∀ p ∈ d, p.length ≤ n := by
  unfold mostL
  rw [foldl_max]
  simp
def greatF (k kind : Int) : Int × Int := if (1 ≤ k ∧ k ≤ 2) ∧ 0 ≤ kind ∧ kind ≤ 2 then ((mostL (allV k kind 40 40 []) : Nat), 0) else (0, 2)
theorem great_is {k kind : Int} {n : Nat} (hn : n ≤ 40) (h : ∃ p ∈ allV k kind 40 40 [], p.length = n) (h' : n = 40 ∨ findF k kind (n + 1) (n + 1) [] = none) : mostL (allV k kind 40 40 []) = n := by
  obtain ⟨p, hp, hpl⟩ := h
  have h1 : n ≤ mostL (allV k kind 40 40 []) := by
    have := mostL_le.1 (Nat.le_refl (mostL (allV k kind 40 40 []))) p hp
    omega
  have h2 : mostL (allV k kind 40 40 []) ≤ n := mostL_le.2 fun q hq => by
    rcases h' with h' | h'
    · have := len_le k kind 40 40 [] (by simp) q hq; omega
    · rcases Nat.lt_or_ge n q.length with hlt | hge
      · have hq40 := len_le k kind 40 40 [] (by simp) q hq
        obtain ⟨r, hr, hrl⟩ := less_too k kind 40 40 [] (by simp) q hq (n + 1) (by simp) (by omega)
        have := (find_iff k kind 40 (n + 1) (by omega) 40 [] (by simp) (by simp)).2 ⟨r, hr, hrl⟩
        rw [List.length_nil, Nat.sub_zero, h'] at this
        cases this
      · exact hge
  omega
end Go.Proofs.Ytlbhpbaeokgmaaa

/- The reading of impl_GreatestFree_1, and its contract. No condition. -/
namespace Go.Proofs.Ytlbhpbaeokgmaaa
open Go Go.RowKit Eng Mem
set_option linter.unusedVariables false
set_option maxRecDepth 100000
def V_impl_GreatestFree_1 (part0 : Value) (x1 : Value) (w : World) (K : Bool → World → Prop) : Prop :=
  (∀ w_1, Drew w w_1 → (QSub Try.prog (Instr.loadAt 2 x1) w_1 (.int .i64) fun (x4_2 : Int) => (Fc Try.prog 52 #[part0] w_1 (.one (.int .i64)) fun (x6_4 : Int) w_3 => (Keeps w_1 w_3 ((QAll Try.prog (Builtin.max_ #[2, 2] 2 #[(.int .i64 x4_2), (.int .i64 x6_4)]) (.int .i64) fun (x7_5 : Int) => (PrU Try.prog (Instr.storeAt 2 x1 (.int .i64 x7_5)) w_3 fun w_6 => K true w_6)))))))

theorem eq_impl_GreatestFree_1 (part0 : Value) (x1 : Value) (w : World) (K : Bool → World → Prop) :
    W Try.prog ty (fun _ _ _ _ => False) (bodyOf Try.f59) (fnPost Try.prog Try.f59.results.toList (.one .bool) K) (frame0 [part0, x1] 8) w = V_impl_GreatestFree_1 part0 x1 w K := by
  kernel_rfl

theorem body_impl_GreatestFree_1 : Try.f59.body = some (bodyOf Try.f59) := by kernel_rfl
theorem name_impl_GreatestFree_1 : (Try.f59.name == "runtime.NumGoroutine") = false := by kernel_rfl

theorem walk_impl_GreatestFree_1 (part0 : Value) (x1 : Value) {w : World} {K : Bool → World → Prop} (h : V_impl_GreatestFree_1 part0 x1 w K) : Fc Try.prog 59 #[part0, x1] w (.one .bool) K :=
  fn_ok follows (sound_none _) Try.func59 name_impl_GreatestFree_1 body_impl_GreatestFree_1 Try.ntmps59 [part0, x1] (Eq.mpr (eq_impl_GreatestFree_1 part0 x1 w K) h)

-- uses S8Great
theorem c_impl_GreatestFree_1 {bm : Nat} {part : Value} {l : List Int} {m : Nat} {w : World} {K : Bool → World → Prop} (hm : Blk w bm [.int .i64 m] tI) (hs : SlI w part l)
    (hK : ∀ w', Mod [bm] w w' → Blk w' bm [.int .i64 (max m l.length : Nat)] tI → K true w') : Fc Try.prog F_impl_GreatestFree_1 #[part, ptr bm 0] w (.one .bool) K := by
  refine walk_impl_GreatestFree_1 _ _ ?_
  intro w1 hd
  have hb := hd.below w.heap.size
  have hm1 : Blk w1 bm [.int .i64 m] tI := below_at hb hm (at_lt hm)
  refine ld (k := .int .i64) yI (row_all (cs := [_]) hm1) (c_impl_sizeS (hs.keep hb) ⟨Below.refl _ _, mx (st yI hm1 (by simp) rfl fun w2 m2 s2 h2 => hK w2 ((mod_of_below hb _).trans m2) ?_)⟩)
  have e : (if (l.length : Int) > m then (l.length : Int) else m) = ((max m l.length : Nat) : Int) := by split <;> omega
  rw [e] at h2
  exact h2

end Go.Proofs.Ytlbhpbaeokgmaaa

/- The reading of impl_GreatestFree, and its contract. No condition. -/
namespace Go.Proofs.Ytlbhpbaeokgmaaa
open Go Go.RowKit Eng Mem
set_option linter.unusedVariables false
set_option maxRecDepth 100000
def V_impl_GreatestFree (k0 : Int) (kind1 : Int) (w : World) (K : (Int × Int) → World → Prop) : Prop :=
  (Fc Try.prog 47 #[(.int .i64 k0), (.int .i64 (1 : Int)), (.int .i64 (2 : Int))] w (.one .bool) fun (x8_2 : Bool) w_1 => (((!x8_2) = true → K ((0 : Int), (2 : Int)) w_1) ∧ ((!x8_2) = false → (Fc Try.prog 49 #[(.int .i64 kind1)] w_1 (.one .bool) fun (x12_4 : Bool) w_3 => (((!x12_4) = true → K ((0 : Int), (2 : Int)) w_3) ∧ ((!x12_4) = false → (Pr Try.prog (Instr.alloc 2 true (.tuple #[])) w_3 (.one .any) fun (most6_6 : Value) w_5 => (PrU Try.prog (Instr.storeAt 2 most6_6 (.int .i64 (0 : Int))) w_5 fun w_7 => (Fc Try.prog 50 #[(.int .i64 (40 : Int)), (.int .i64 k0), (.int .i64 kind1), (.slice none 0 0), (.func (.func 59) #[] #[most6_6])] w_7 (.one .bool) fun (x18_10 : Bool) w_9 => (QSub Try.prog (Instr.loadAt 2 most6_6) w_9 (.int .i64) fun (x19_11 : Int) => K (x19_11, (0 : Int)) w_9))))))))))

theorem eq_impl_GreatestFree (k0 : Int) (kind1 : Int) (w : World) (K : (Int × Int) → World → Prop) :
    W Try.prog ty (fun _ _ _ _ => False) (bodyOf Try.f26) (fnPost Try.prog Try.f26.results.toList (.two (.int .i64) (.int .i64)) K) (frame0 [(.int .i64 k0), (.int .i64 kind1)] 20) w = V_impl_GreatestFree k0 kind1 w K := by
  kernel_rfl

theorem body_impl_GreatestFree : Try.f26.body = some (bodyOf Try.f26) := by kernel_rfl
theorem name_impl_GreatestFree : (Try.f26.name == "runtime.NumGoroutine") = false := by kernel_rfl

theorem walk_impl_GreatestFree (k0 : Int) (kind1 : Int) {w : World} {K : (Int × Int) → World → Prop} (h : V_impl_GreatestFree k0 kind1 w K) : Fc Try.prog 26 #[(.int .i64 k0), (.int .i64 kind1)] w (.two (.int .i64) (.int .i64)) K :=
  fn_ok follows (sound_none _) Try.func26 name_impl_GreatestFree body_impl_GreatestFree Try.ntmps26 [(.int .i64 k0), (.int .i64 kind1)] (Eq.mpr (eq_impl_GreatestFree k0 kind1 w K) h)

-- uses S8Great
theorem c_impl_GreatestFree {k kind : Int} {w : World} {K : Int × Int → World → Prop} (_ : I64 k) (_ : I64 kind)
    (hK : ∀ w', Below w.heap.size w w' → K ((greatF k kind).1, (greatF k kind).2) w') : Fc Try.prog F_impl_GreatestFree #[.int .i64 k, .int .i64 kind] w (.two (.int .i64) (.int .i64)) K := by
  unfold greatF at hK
  have k0 := hK w (Below.refl _ _)
  refine walk_impl_GreatestFree _ _ (c_impl_in _ _ _ ⟨fun h => by rwa [if_neg (fun hh => notd_t h hh.1)] at k0, fun h1 => c_impl_isFaultKind _ ⟨fun h => by rwa [if_neg (fun hh => notd_t h hh.2)] at k0, fun h2 => ?_⟩⟩)
  have h1 := notd_f h1; have h2 := notd_f h2
  refine alloc1 yI fun bm w1 n1 => st yI n1.at_ (by simp) rfl fun w2 m2 s2 h3 => ?_
  have e1 := n1.here; have s1 := n1.size
  have q2 : Below w.heap.size w w2 := n1.below.trans (m2.below (by omega) (by simp; omega))
  have main := c_impl_free (f := .func (.func F_impl_GreatestFree_1) #[] #[ptr bm 0]) (k := k) (kind := kind) (n := 40) (fun _ => true)
    (fun d w' => Below w.heap.size w w' ∧ Blk w' bm [.int .i64 (mostL d : Nat)] tI) w2.heap.size (goF (fun _ => true) k kind 40 40 []).1 (by omega) h2 (by omega)
    (fun d w' w'' hj hb => ⟨hj.1.trans (hb.mono hj.1.size), below_at hb hj.2 (at_lt hj.2)⟩)
    (fun d l e hd hl part w' K' hj hm hk' => cv rfl (c_impl_GreatestFree_1 hj.2 hm.sl fun w'' m hb => hk' w'' ⟨hj.1.trans (m.below hj.1.size (by simp; omega)), by rw [mostL_snoc]; exact hb⟩ (m.r (by omega) (by omega))))
    40 [] (.slice none 0 0) [] [] w2
  refine main _ (by simp) (by simp) ⟨q2, by simpa [mostL] using h3⟩ (Nat.le_refl _) (myI_nil _ _ _) fun w3 hj mr => ?_
  refine ld (k := .int .i64) yI (row_all (cs := [_]) hj.2) ?_
  have := hK w3 hj.1
  rw [if_pos ⟨h1, h2⟩] at this
  exact this

end Go.Proofs.Ytlbhpbaeokgmaaa

/- The reading of impl_IsFree, and its contract. No condition. -/
namespace Go.Proofs.Ytlbhpbaeokgmaaa
open Go Go.RowKit Eng Mem
set_option linter.unusedVariables false
set_option maxRecDepth 100000
def V_impl_IsFree (k0 : Int) (part1 : Value) (kind2 : Int) (w : World) (K : (Bool × Int) → World → Prop) : Prop :=
  (Fc Try.prog 36 #[(.int .i64 k0), part1, (.int .i64 kind2)] w (.one (.int .i64)) fun (x12_2 : Int) w_1 => (((x12_2 != (0 : Int)) = true → K (false, x12_2) w_1) ∧ ((x12_2 != (0 : Int)) = false → (Fc Try.prog 37 #[part1, (.int .i64 kind2)] w_1 (.one .any) fun (x18_4 : Value) w_3 => (QAll Try.prog (Builtin.len_ #[52] 3 #[x18_4]) (.int .i64) fun (x19_5 : Int) => K ((x19_5 == (0 : Int)), (0 : Int)) w_3)))))

theorem eq_impl_IsFree (k0 : Int) (part1 : Value) (kind2 : Int) (w : World) (K : (Bool × Int) → World → Prop) :
    W Try.prog ty (fun _ _ _ _ => False) (bodyOf Try.f10) (fnPost Try.prog Try.f10.results.toList (.two .bool (.int .i64)) K) (frame0 [(.int .i64 k0), part1, (.int .i64 kind2)] 21) w = V_impl_IsFree k0 part1 kind2 w K := by
  kernel_rfl

theorem body_impl_IsFree : Try.f10.body = some (bodyOf Try.f10) := by kernel_rfl
theorem name_impl_IsFree : (Try.f10.name == "runtime.NumGoroutine") = false := by kernel_rfl

theorem walk_impl_IsFree (k0 : Int) (part1 : Value) (kind2 : Int) {w : World} {K : (Bool × Int) → World → Prop} (h : V_impl_IsFree k0 part1 kind2 w K) : Fc Try.prog 10 #[(.int .i64 k0), part1, (.int .i64 kind2)] w (.two .bool (.int .i64)) K :=
  fn_ok follows (sound_none _) Try.func10 name_impl_IsFree body_impl_IsFree Try.ntmps10 [(.int .i64 k0), part1, (.int .i64 kind2)] (Eq.mpr (eq_impl_IsFree k0 part1 kind2 w K) h)

-- uses S8Cnt
theorem c_impl_IsFree {k kind : Int} {a : Value} {l : List Int} {w : World} {K : Bool × Int → World → Prop} (_ : I64 k) (ha : ArgI w a l) (_ : I64 kind)
    (hK : ∀ w', Below w.heap.size w w' → K ((freeF k l kind).1, (freeF k l kind).2) w') : Fc Try.prog F_impl_IsFree #[.int .i64 k, a, .int .i64 kind] w (.two .bool (.int .i64)) K := by
  unfold freeF at hK
  refine walk_impl_IsFree _ _ _ (c_impl_partCode ha.sl fun w1 hb1 => ?_)
  by_cases h : IsPart k l ∧ 0 ≤ kind ∧ kind ≤ 2
  · rw [if_pos h] at hK ⊢
    have hl := h.1.2.2.1
    refine ⟨fun e => absurd rfl (ne_t e), fun _ => c_impl_faults (ha.sl.keep hb1) (by omega) h.2 fun w2 v b hb2 hB hm => hm.len_eq ?_⟩
    have := hK w2 (hb1.trans (hb2.mono hb1.size))
    have e : (((faR l kind 0 l.length).length : Int) == 0) = decide (faR l kind 0 l.length = []) := by
      rw [Bool.eq_iff_iff]
      simp
    rw [e]
    exact this
  · rw [if_neg h] at hK ⊢
    exact ⟨fun _ => hK w1 hb1, fun e => absurd (ne_f e) (by omega)⟩

end Go.Proofs.Ytlbhpbaeokgmaaa

/- The reading of slices_Reverse_int64_int64, and its contract. No condition. -/
namespace Go.Proofs.Ytlbhpbaeokgmaaa
open Go Go.RowKit Eng Mem
set_option linter.unusedVariables false
set_option maxRecDepth 100000
def B_slices_Reverse_int64_int64_1 (s0 : Value) (i2 : Int) (j3 : Int) (N : Value → (Int × Int) → World → Prop) (D0 : (Unit) → World → Prop) (w : World) : Prop :=
  (((decide (i2 < j3)) = true → (∀ w_2, Drew w w_2 → (QAll Try.prog (Instr.indexAt 24 s0 (.int .i64 j3)) .any fun (x20_3 : Value) => (QSub Try.prog (Instr.loadAt 2 x20_3) w_2 (.int .i64) fun (x21_4 : Int) => (QAll Try.prog (Instr.indexAt 24 s0 (.int .i64 i2)) .any fun (x24_5 : Value) => (QSub Try.prog (Instr.loadAt 2 x24_5) w_2 (.int .i64) fun (x25_6 : Int) => (QAll Try.prog (Instr.indexAt 24 s0 (.int .i64 i2)) .any fun (x26_7 : Value) => (PrU Try.prog (Instr.storeAt 2 x26_7 (.int .i64 x21_4)) w_2 fun w_8 => (QAll Try.prog (Instr.indexAt 24 s0 (.int .i64 j3)) .any fun (x27_10 : Value) => (PrU Try.prog (Instr.storeAt 2 x27_10 (.int .i64 x25_6)) w_8 fun w_11 => N (s0 : Value) ((IntKind.i64.wrap (i2 + (1 : Int))), (IntKind.i64.wrap (j3 - (1 : Int)))) w_11)))))))))) ∧ ((decide (i2 < j3)) = false → D0 () w))

abbrev L_slices_Reverse_int64_int64_1_e0 : List Slot := [.junk, .junk, .junk, .junk, .junk, .junk, .junk, .junk, .junk, .junk, .junk, .junk, .junk, .junk, .junk, .junk, .junk, .junk, .junk, .junk, .junk, .junk, .junk, .junk, .junk, .junk, .junk, .junk]

abbrev L_slices_Reverse_int64_int64_1_sp : List Slot := [.k .any, .junk, .k (.int .i64), .k (.int .i64), .junk, .junk, .junk, .junk, .junk, .junk, .junk, .junk, .junk, .junk, .junk, .junk, .junk, .junk, .junk, .junk, .junk, .junk, .junk, .junk, .junk, .junk, .junk, .junk]
abbrev L_slices_Reverse_int64_int64_1_ex : List (Nat × List Slot) := [(0, L_slices_Reverse_int64_int64_1_e0)]
abbrev L_slices_Reverse_int64_int64_1_rt : List Slot := [.junk, .junk, .junk, .junk, .junk, .junk, .junk, .junk, .junk, .junk, .junk, .junk, .junk, .junk, .junk, .junk, .junk, .junk, .junk, .junk, .junk, .junk, .junk, .junk, .junk, .junk, .junk, .junk]

def L_slices_Reverse_int64_int64_1_b (Φ : Post) (u : Value) (N : Value → (Int × Int) → World → Prop) (s : (Int × Int)) (w : World) : Prop :=
  B_slices_Reverse_int64_int64_1 u s.1 s.2 N (fun v w => ∀ j : Nat → Value, Φ (.exit 0) (mkT j 0 L_slices_Reverse_int64_int64_1_e0 v) w) w

theorem L_slices_Reverse_int64_int64_1_eq (j : Nat → Value) (u : Value) (s : (Int × Int)) (N : Value → (Int × Int) → World → Prop) (D0 : (Unit) → World → Prop) (R : (Unit) → World → Prop) (w : World) :
    W Try.prog ty (fun _ _ _ _ => False) (loopAt Try.f46 1) (loopPost L_slices_Reverse_int64_int64_1_sp [(0, (⟨L_slices_Reverse_int64_int64_1_e0, D0⟩ : Door))] ⟨L_slices_Reverse_int64_int64_1_rt, R⟩ (fun v w => N ((fun v => v.1) v) ((fun v => (v.2.1, v.2.2.1)) v) w)) (mkT j 0 L_slices_Reverse_int64_int64_1_sp ((fun u s => (u, s.1, s.2, ())) u s)) w =
    B_slices_Reverse_int64_int64_1 u s.1 s.2 N D0 w := by
  kernel_rfl

def O_slices_Reverse_int64_int64_1 : Code → Post → List SV → World → Prop :=
  orc 1 (loopAt Try.f46 1) L_slices_Reverse_int64_int64_1_sp (fun Φ fr w => LOOP (U := Value) (S := (Int × Int)) ((fun v => v.1) (extT L_slices_Reverse_int64_int64_1_sp fr)) (L_slices_Reverse_int64_int64_1_b Φ ((fun v => v.1) (extT L_slices_Reverse_int64_int64_1_sp fr))) ((fun v => (v.2.1, v.2.2.1)) (extT L_slices_Reverse_int64_int64_1_sp fr)) w) (fun _ _ _ _ => False)

theorem O_slices_Reverse_int64_int64_1_ok : Sound Try.prog O_slices_Reverse_int64_int64_1 :=
  orc_ok (sound_none _) fun Φ fr w hs h => loop_ok (ty := ty) follows (sound_none _) L_slices_Reverse_int64_int64_1_sp (fun v => v.1) (fun v => (v.2.1, v.2.2.1)) (fun u s => (u, s.1, s.2, ())) (fun _ => rfl) L_slices_Reverse_int64_int64_1_ex L_slices_Reverse_int64_int64_1_rt (body := L_slices_Reverse_int64_int64_1_b Φ) (fun j u s w N hb => by
    have e := L_slices_Reverse_int64_int64_1_eq j u s N (doorOf Φ (.exit 0) L_slices_Reverse_int64_int64_1_e0).D (doorOf Φ .ret L_slices_Reverse_int64_int64_1_rt).D w
    exact Eq.mpr e hb) hs h

def V_slices_Reverse_int64_int64 (s0 : Value) (w : World) (K : Unit → World → Prop) : Prop :=
  (QAll Try.prog (Builtin.len_ #[24] 3 #[s0]) (.int .i64) fun (x5_1 : Int) => (At (loopAt Try.f46 1) (loopAt Try.f46 1) (LOOP (U := Value) (S := (Int × Int)) (s0 : Value) (fun N_16 s_17 w_18 => B_slices_Reverse_int64_int64_1 (s0 : Value) s_17.1 s_17.2 N_16 (fun (v_13 : (Unit)) w_14 => ∀ _j_15 : Nat → Value, K () w_14) w_18) ((0 : Int), (IntKind.i64.wrap (x5_1 - (1 : Int)))) w)))

theorem eq_slices_Reverse_int64_int64 (s0 : Value) (w : World) (K : Unit → World → Prop) :
    W Try.prog ty O_slices_Reverse_int64_int64_1 (bodyOf Try.f46) (fnPost Try.prog Try.f46.results.toList .unit K) (frame0 [s0] 28) w = V_slices_Reverse_int64_int64 s0 w K := by
  kernel_rfl

theorem body_slices_Reverse_int64_int64 : Try.f46.body = some (bodyOf Try.f46) := by kernel_rfl
theorem name_slices_Reverse_int64_int64 : (Try.f46.name == "runtime.NumGoroutine") = false := by kernel_rfl

theorem walk_slices_Reverse_int64_int64 (s0 : Value) {w : World} {K : Unit → World → Prop} (h : V_slices_Reverse_int64_int64 s0 w K) : Fc Try.prog 46 #[s0] w .unit K :=
  fn_ok follows O_slices_Reverse_int64_int64_1_ok Try.func46 name_slices_Reverse_int64_int64 body_slices_Reverse_int64_int64 Try.ntmps46 [s0] (Eq.mpr (eq_slices_Reverse_int64_int64 s0 w K) h)

-- uses S2Sl
theorem c_slices_Reverse_int64_int64 {a : Value} {l : List Int} {B E : Nat} {w : World} {K : Unit → World → Prop} (h : MyI B E w a l) (hK : ∀ w', ModR B E w w' → MyI B E w' a l.reverse → K () w') :
    Fc Try.prog F_slices_Reverse_int64_int64 #[a] w .unit K := by
  have hlen := h.len
  refine walk_slices_Reverse_int64_int64 _ (lenI h.sl ?_)
  rw [wrap_small (by omega) (by omega)]
  rcases h with ⟨_, ⟨rfl, rfl⟩ | ⟨b, hB, hE, ho⟩⟩
  · refine lp (fun s w' => s = (0, -1) ∧ w' = w) (fun _ _ => 0) ⟨rfl, rfl⟩ ?_
    rintro s w' N ⟨rfl, rfl⟩ hN
    unfold B_slices_Reverse_int64_int64_1
    exact ⟨fun h => by simp at h, fun _ _ => hK w' (ModR.refl _ _ _) (by simpa using myI_nil _ _ _)⟩
  · refine lp (fun s w' => 0 ≤ s.1 ∧ s.1 + s.2 = l.length - 1 ∧ s.1 ≤ s.2 + 1 ∧ Mod [b] w w' ∧ ∃ m : List Int, m.length = l.length ∧ Own w' b tI 1 a l.length (iv m) ∧ ∀ p : Nat, p < l.length → m.getD p 0 = if (p : Int) < s.1 ∨ s.2 < p then l.getD (l.length - 1 - p) 0 else l.getD p 0)
      (fun s _ => (s.2 + 1 - s.1).toNat) ⟨by simp, by simp, by simp, Mod.refl _ _, l, rfl, ho, fun p hp => by rw [if_neg (by simp; omega)]⟩ ?_
    rintro ⟨i, j⟩ w' N ⟨i0, i1, i2, hm, m, hml, hO, hall⟩ hN
    simp only at i0 i1 i2 hall
    unfold B_slices_Reverse_int64_int64_1
    have hO : OwnI w' b a m := by unfold OwnI; rw [hml]; exact hO
    refine ⟨fun hlt w1 hd => ?_, fun hge => ?_⟩
    · have hlt := dec_t hlt
      simp only at hlt
      have hb := hd.below w'.heap.size
      have h1 : OwnI w1 b a m := hO.keep hb
      have hs1 : SlI w1 a m := own_slI h1 (by omega)
      refine atI hs1 (by omega) (by rw [hml]; omega) (atI hs1 i0 (by rw [hml]; omega) (putI h1 i0 (by rw [hml]; omega) fun w2 m2 s2 h2 => putI h2 (by omega) (by rw [List.length_set, hml]; omega) fun w3 m3 s3 h3 => ?_))
      simp only
      rw [wrap_small (by omega) (by omega), wrap_small (by omega) (by omega)]
      refine hN _ _ ⟨by simp; omega, by simp; omega, by simp; omega, (hm.trans (mod_of_below hb [b])).trans (m2.trans m3), (m.set i.toNat (m.getD j.toNat 0)).set j.toNat (m.getD i.toNat 0), by simp [hml], ?_, fun p hp => ?_⟩ (by simp; omega)
      · have : ((m.set i.toNat (m.getD j.toNat 0)).set j.toNat (m.getD i.toNat 0)).length = l.length := by simp [hml]
        unfold OwnI at h3
        rwa [this] at h3
      · have hpi := hall p hp
        have hii := hall i.toNat (by omega)
        have hjj := hall j.toNat (by omega)
        rw [if_neg (by omega)] at hii hjj
        simp only
        by_cases hj : p = j.toNat
        · subst hj
          rw [if_pos (by omega)]
          have : ((m.set i.toNat (m.getD j.toNat 0)).set j.toNat (m.getD i.toNat 0)).getD j.toNat 0 = m.getD i.toNat 0 := by simp [List.getD, hml, show j.toNat < l.length from by omega]
          rw [this, hii]
          congr 1; omega
        · by_cases hi : p = i.toNat
          · subst hi
            rw [if_pos (by omega)]
            have : ((m.set i.toNat (m.getD j.toNat 0)).set j.toNat (m.getD i.toNat 0)).getD i.toNat 0 = m.getD j.toNat 0 := by
              simp only [List.getD]
              rw [List.getElem?_set_ne (by omega), List.getElem?_set_self (by omega)]
              rfl
            rw [this, hjj]
            congr 1; omega
          · have : ((m.set i.toNat (m.getD j.toNat 0)).set j.toNat (m.getD i.toNat 0)).getD p 0 = m.getD p 0 := by
              simp only [List.getD]
              rw [List.getElem?_set_ne (by omega), List.getElem?_set_ne (by omega)]
            rw [this, hpi]
            by_cases hin : (p : Int) < i ∨ j < p
            · rw [if_pos hin, if_pos (by omega)]
            · rw [if_neg hin, if_neg (by omega)]
    · have hge := dec_f hge
      simp only at hge
      intro _
      have : m = l.reverse := by
        apply List.ext_getElem
        · simp [hml]
        · intro p h1 h2
          have hp : p < l.length := by omega
          have := hall p hp
          rw [List.getElem_reverse]
          simp only [List.getD, h1, hp, List.getElem?_eq_getElem, Option.getD_some, show l.length - 1 - p < l.length from by omega] at this
          rw [this]
          split
          · rfl
          · congr 1; omega
      subst this
      exact hK w' (hm.r hB hE) (own_my hO (by simpa using hlen) hB hE)

end Go.Proofs.Ytlbhpbaeokgmaaa

/- The reading of impl_ReflectPart, and its contract. No condition. -/
namespace Go.Proofs.Ytlbhpbaeokgmaaa
open Go Go.RowKit Eng Mem
set_option linter.unusedVariables false
set_option maxRecDepth 100000
def V_impl_ReflectPart (k0 : Int) (part1 : Value) (w : World) (K : (Value × Int) → World → Prop) : Prop :=
  (Fc Try.prog 45 #[(.int .i64 k0), part1] w (.one .bool) fun (x9_2 : Bool) w_1 => (((!x9_2) = true → K (((.slice none 0 0) : Value), (2 : Int)) w_1) ∧ ((!x9_2) = false → (Fc Try.prog 43 #[part1] w_1 (.one .any) fun (x12_4 : Value) w_3 => (Fc Try.prog 46 #[x12_4] w_3 .unit fun (x14_6 : Unit) w_5 => K ((x12_4 : Value), (0 : Int)) w_5)))))

theorem eq_impl_ReflectPart (k0 : Int) (part1 : Value) (w : World) (K : (Value × Int) → World → Prop) :
    W Try.prog ty (fun _ _ _ _ => False) (bodyOf Try.f17) (fnPost Try.prog Try.f17.results.toList (.two .any (.int .i64)) K) (frame0 [(.int .i64 k0), part1] 16) w = V_impl_ReflectPart k0 part1 w K := by
  kernel_rfl

theorem body_impl_ReflectPart : Try.f17.body = some (bodyOf Try.f17) := by kernel_rfl
theorem name_impl_ReflectPart : (Try.f17.name == "runtime.NumGoroutine") = false := by kernel_rfl

theorem walk_impl_ReflectPart (k0 : Int) (part1 : Value) {w : World} {K : (Value × Int) → World → Prop} (h : V_impl_ReflectPart k0 part1 w K) : Fc Try.prog 17 #[(.int .i64 k0), part1] w (.two .any (.int .i64)) K :=
  fn_ok follows (sound_none _) Try.func17 name_impl_ReflectPart body_impl_ReflectPart Try.ntmps17 [(.int .i64 k0), part1] (Eq.mpr (eq_impl_ReflectPart k0 part1 w K) h)

-- uses S7Refl
theorem c_impl_ReflectPart {k : Int} {a : Value} {l : List Int} {w : World} {K : Value × Int → World → Prop} (_ : I64 k) (ha : ArgI w a l)
    (hK : ∀ w' v, Below w.heap.size w w' → MyI w.heap.size w'.heap.size w' v (reflOf k l).1 → K (v, (reflOf k l).2) w') : Fc Try.prog F_impl_ReflectPart #[.int .i64 k, a] w (.two .any (.int .i64)) K := by
  refine walk_impl_ReflectPart _ _ (c_impl_isPart ha.sl fun w1 hb1 => ?_)
  have hs1 := hb1.size
  unfold reflOf at hK
  refine ⟨fun h => ?_, fun h => ?_⟩
  · have h := notd_t h
    rw [if_neg h] at hK
    exact hK w1 _ hb1 (myI_nil _ _ _)
  · have h := notd_f h
    rw [if_pos h] at hK
    have hl := h.2.2.1
    refine c_slices_Clone_int64_int64 (ha.sl.keep hb1) (by omega) fun v w2 hb2 hm => c_slices_Reverse_int64_int64 hm fun w3 mr hm3 => ?_
    have hs2 := hb2.size; have hs3 := mr.size
    exact hK w3 v ((hb1.trans (hb2.mono hs1)).trans (mr.below (by omega) (by omega))) (hm3.mono (by omega) (by omega))

end Go.Proofs.Ytlbhpbaeokgmaaa

/- The reading of laws_big, and its contract. No condition. -/
namespace Go.Proofs.Ytlbhpbaeokgmaaa
open Go Go.RowKit Eng Mem
set_option linter.unusedVariables false
set_option maxRecDepth 100000
def V_laws_big (code0 : Value) (w : World) (K : Bool → World → Prop) : Prop :=
  (QAll Try.prog (Builtin.len_ #[22] 3 #[code0]) (.int .i64) fun (x4_1 : Int) => K (decide (x4_1 > (4096 : Int))) w)

theorem eq_laws_big (code0 : Value) (w : World) (K : Bool → World → Prop) :
    W Try.prog ty (fun _ _ _ _ => False) (bodyOf Try.f6) (fnPost Try.prog Try.f6.results.toList (.one .bool) K) (frame0 [code0] 6) w = V_laws_big code0 w K := by
  kernel_rfl

theorem body_laws_big : Try.f6.body = some (bodyOf Try.f6) := by kernel_rfl
theorem name_laws_big : (Try.f6.name == "runtime.NumGoroutine") = false := by kernel_rfl

theorem walk_laws_big (code0 : Value) {w : World} {K : Bool → World → Prop} (h : V_laws_big code0 w K) : Fc Try.prog 6 #[code0] w (.one .bool) K :=
  fn_ok follows (sound_none _) Try.func6 name_laws_big body_laws_big Try.ntmps6 [code0] (Eq.mpr (eq_laws_big code0 w K) h)

-- uses S9Src
theorem c_laws_big {code : Value} {l : List Int} {w : World} {K : Bool → World → Prop} (h : ArgB w code l) (hK : K (decide ((l.length : Int) > 4096)) w) : Fc Try.prog F_laws_big #[code] w (.one .bool) K :=
  walk_laws_big _ (lenB h hK)

end Go.Proofs.Ytlbhpbaeokgmaaa

/- The reading of laws_likeInts, and its contract. No condition. -/
namespace Go.Proofs.Ytlbhpbaeokgmaaa
open Go Go.RowKit Eng Mem
set_option linter.unusedVariables false
set_option maxRecDepth 100000
def B_laws_likeInts_4 (a0 : Value) (b1 : Value) (i5 : Int) (N : (Value × Value) → Int → World → Prop) (D0 : (Unit) → World → Prop) (R : (Bool × Unit) → World → Prop) (w : World) : Prop :=
  (QAll Try.prog (Builtin.len_ #[24] 3 #[a0]) (.int .i64) fun (x13_3 : Int) => (((decide (i5 < x13_3)) = true → (∀ w_4, Drew w w_4 → (QAll Try.prog (Instr.indexAt 24 a0 (.int .i64 i5)) .any fun (x19_5 : Value) => (QSub Try.prog (Instr.loadAt 2 x19_5) w_4 (.int .i64) fun (x20_6 : Int) => (QAll Try.prog (Instr.indexAt 24 b1 (.int .i64 i5)) .any fun (x23_7 : Value) => (QSub Try.prog (Instr.loadAt 2 x23_7) w_4 (.int .i64) fun (x24_8 : Int) => (((x20_6 != x24_8) = true → R (false, ()) w_4) ∧ ((x20_6 != x24_8) = false → N ((a0 : Value), (b1 : Value)) (IntKind.i64.wrap (i5 + (1 : Int))) w_4)))))))) ∧ ((decide (i5 < x13_3)) = false → D0 () w)))

abbrev L_laws_likeInts_4_e0 : List Slot := [.junk, .junk, .junk, .junk, .junk, .junk, .junk, .junk, .junk, .junk, .junk, .junk, .junk, .junk, .junk, .junk, .junk, .junk, .junk, .junk, .junk, .junk, .junk, .junk, .junk, .junk]

abbrev L_laws_likeInts_4_sp : List Slot := [.k .any, .k .any, .junk, .junk, .junk, .k (.int .i64), .junk, .junk, .junk, .junk, .junk, .junk, .junk, .junk, .junk, .junk, .junk, .junk, .junk, .junk, .junk, .junk, .junk, .junk, .junk, .junk]
abbrev L_laws_likeInts_4_ex : List (Nat × List Slot) := [(0, L_laws_likeInts_4_e0)]
abbrev L_laws_likeInts_4_rt : List Slot := [.junk, .junk, .junk, .junk, .k .bool, .junk, .junk, .junk, .junk, .junk, .junk, .junk, .junk, .junk, .junk, .junk, .junk, .junk, .junk, .junk, .junk, .junk, .junk, .junk, .junk, .junk]

def L_laws_likeInts_4_b (Φ : Post) (u : (Value × Value)) (N : (Value × Value) → Int → World → Prop) (s : Int) (w : World) : Prop :=
  B_laws_likeInts_4 u.1 u.2 s N (fun v w => ∀ j : Nat → Value, Φ (.exit 0) (mkT j 0 L_laws_likeInts_4_e0 v) w) (fun v w => ∀ j : Nat → Value, Φ .ret (mkT j 0 L_laws_likeInts_4_rt v) w) w

theorem L_laws_likeInts_4_eq (j : Nat → Value) (u : (Value × Value)) (s : Int) (N : (Value × Value) → Int → World → Prop) (D0 : (Unit) → World → Prop) (R : (Bool × Unit) → World → Prop) (w : World) :
    W Try.prog ty (fun _ _ _ _ => False) (loopAt Try.f16 4) (loopPost L_laws_likeInts_4_sp [(0, (⟨L_laws_likeInts_4_e0, D0⟩ : Door))] ⟨L_laws_likeInts_4_rt, R⟩ (fun v w => N ((fun v => (v.1, v.2.1)) v) ((fun v => v.2.2.1) v) w)) (mkT j 0 L_laws_likeInts_4_sp ((fun u s => (u.1, u.2, s, ())) u s)) w =
    B_laws_likeInts_4 u.1 u.2 s N D0 R w := by
  kernel_rfl

def O_laws_likeInts_1 : Code → Post → List SV → World → Prop :=
  orc 4 (loopAt Try.f16 4) L_laws_likeInts_4_sp (fun Φ fr w => LOOP (U := (Value × Value)) (S := Int) ((fun v => (v.1, v.2.1)) (extT L_laws_likeInts_4_sp fr)) (L_laws_likeInts_4_b Φ ((fun v => (v.1, v.2.1)) (extT L_laws_likeInts_4_sp fr))) ((fun v => v.2.2.1) (extT L_laws_likeInts_4_sp fr)) w) (fun _ _ _ _ => False)

theorem O_laws_likeInts_1_ok : Sound Try.prog O_laws_likeInts_1 :=
  orc_ok (sound_none _) fun Φ fr w hs h => loop_ok (ty := ty) follows (sound_none _) L_laws_likeInts_4_sp (fun v => (v.1, v.2.1)) (fun v => v.2.2.1) (fun u s => (u.1, u.2, s, ())) (fun _ => rfl) L_laws_likeInts_4_ex L_laws_likeInts_4_rt (body := L_laws_likeInts_4_b Φ) (fun j u s w N hb => by
    have e := L_laws_likeInts_4_eq j u s N (doorOf Φ (.exit 0) L_laws_likeInts_4_e0).D (doorOf Φ .ret L_laws_likeInts_4_rt).D w
    exact Eq.mpr e hb) hs h

def V_laws_likeInts (a0 : Value) (b1 : Value) (w : World) (K : Bool → World → Prop) : Prop :=
  (QAll Try.prog (Builtin.len_ #[24] 3 #[a0]) (.int .i64) fun (x7_1 : Int) => (QAll Try.prog (Builtin.len_ #[24] 3 #[b1]) (.int .i64) fun (x9_2 : Int) => (((x7_1 != x9_2) = true → K false w) ∧ ((x7_1 != x9_2) = false → (At (loopAt Try.f16 4) (loopAt Try.f16 4) (LOOP (U := (Value × Value)) (S := Int) ((a0 : Value), (b1 : Value)) (fun N_15 s_16 w_17 => B_laws_likeInts_4 (a0 : Value) (b1 : Value) s_16 N_15 (fun (v_9 : (Unit)) w_10 => ∀ _j_11 : Nat → Value, K true w_10) (fun (v_12 : (Bool × Unit)) w_13 => ∀ _j_14 : Nat → Value, K v_12.1 w_13) w_17) (0 : Int) w))))))

theorem eq_laws_likeInts (a0 : Value) (b1 : Value) (w : World) (K : Bool → World → Prop) :
    W Try.prog ty O_laws_likeInts_1 (bodyOf Try.f16) (fnPost Try.prog Try.f16.results.toList (.one .bool) K) (frame0 [a0, b1] 26) w = V_laws_likeInts a0 b1 w K := by
  kernel_rfl

theorem body_laws_likeInts : Try.f16.body = some (bodyOf Try.f16) := by kernel_rfl
theorem name_laws_likeInts : (Try.f16.name == "runtime.NumGoroutine") = false := by kernel_rfl

theorem walk_laws_likeInts (a0 : Value) (b1 : Value) {w : World} {K : Bool → World → Prop} (h : V_laws_likeInts a0 b1 w K) : Fc Try.prog 16 #[a0, b1] w (.one .bool) K :=
  fn_ok follows O_laws_likeInts_1_ok Try.func16 name_laws_likeInts body_laws_likeInts Try.ntmps16 [a0, b1] (Eq.mpr (eq_laws_likeInts a0 b1 w K) h)

-- uses S8Free
theorem c_laws_likeInts {x y : Value} {l : List Int} {w : World} {K : Bool → World → Prop} (hx : SlI w x l) (hy : SlI w y l) (hl : l.length ≤ 1099511627776)
    (hK : ∀ w', Below w.heap.size w w' → K true w') : Fc Try.prog F_laws_likeInts #[x, y] w (.one .bool) K := by
  refine walk_laws_likeInts _ _ (lenI hx (lenI hy ⟨fun h => absurd rfl (ne_t h), fun _ => ?_⟩))
  refine lp (fun i w' => 0 ≤ i ∧ i ≤ l.length ∧ Below w.heap.size w w') (fun i _ => ((l.length : Int) - i).toNat) ⟨by omega, by omega, Below.refl _ _⟩ ?_
  rintro i w1 N ⟨i0, i1, q1⟩ hN
  unfold B_laws_likeInts_4
  refine lenI (hx.keep q1) ⟨fun h w2 hd => ?_, fun _ _ => hK w1 q1⟩
  have h := dec_t h
  have q2 := q1.trans (hd.below _)
  refine atI (hx.keep q2) i0 h (atI (hy.keep q2) i0 h ⟨fun e => absurd rfl (ne_t e), fun _ => ?_⟩)
  rw [wrap_small (by omega) (by omega)]
  exact hN _ _ ⟨by omega, by omega, q2⟩ (by omega)

end Go.Proofs.Ytlbhpbaeokgmaaa

/- The reading of spec_l01In, and its contract. No condition. -/
namespace Go.Proofs.Ytlbhpbaeokgmaaa
open Go Go.RowKit Eng Mem
set_option linter.unusedVariables false
set_option maxRecDepth 100000
def V_spec_l01In (n0 : Int) (low1 : Int) (high2 : Int) (w : World) (K : Bool → World → Prop) : Prop :=
  (((decide (n0 ≥ low1)) = true → K (decide (n0 ≤ high2)) w) ∧ ((decide (n0 ≥ low1)) = false → K false w))

theorem eq_spec_l01In (n0 : Int) (low1 : Int) (high2 : Int) (w : World) (K : Bool → World → Prop) :
    W Try.prog ty (fun _ _ _ _ => False) (bodyOf Try.f53) (fnPost Try.prog Try.f53.results.toList (.one .bool) K) (frame0 [(.int .i64 n0), (.int .i64 low1), (.int .i64 high2)] 15) w = V_spec_l01In n0 low1 high2 w K := by
  kernel_rfl

theorem body_spec_l01In : Try.f53.body = some (bodyOf Try.f53) := by kernel_rfl
theorem name_spec_l01In : (Try.f53.name == "runtime.NumGoroutine") = false := by kernel_rfl

theorem walk_spec_l01In (n0 : Int) (low1 : Int) (high2 : Int) {w : World} {K : Bool → World → Prop} (h : V_spec_l01In n0 low1 high2 w K) : Fc Try.prog 53 #[(.int .i64 n0), (.int .i64 low1), (.int .i64 high2)] w (.one .bool) K :=
  fn_ok follows (sound_none _) Try.func53 name_spec_l01In body_spec_l01In Try.ntmps53 [(.int .i64 n0), (.int .i64 low1), (.int .i64 high2)] (Eq.mpr (eq_spec_l01In n0 low1 high2 w K) h)

theorem c_spec_l01In (n lo hi : Int) {w : World} {K : Bool → World → Prop} (hK : K (decide (lo ≤ n ∧ n ≤ hi)) w) : Fc Try.prog F_spec_l01In #[.int .i64 n, .int .i64 lo, .int .i64 hi] w (.one .bool) K := by
  refine walk_spec_l01In n lo hi ⟨fun h => ?_, fun h => ?_⟩
  · have h := of_decide_eq_true h
    simpa [h] using hK
  · have h := of_decide_eq_false h
    have : ¬ lo ≤ n := h
    simpa [this] using hK

end Go.Proofs.Ytlbhpbaeokgmaaa

/- The reading of spec_l01All, and its contract. No condition. -/
namespace Go.Proofs.Ytlbhpbaeokgmaaa
open Go Go.RowKit Eng Mem
set_option linter.unusedVariables false
set_option maxRecDepth 100000
def B_spec_l01All_2 (list0 : Value) (k1 : Int) (i5 : Int) (N : (Value × Int) → Int → World → Prop) (D0 : (Unit) → World → Prop) (R : (Bool × Unit) → World → Prop) (w : World) : Prop :=
  (QAll Try.prog (Builtin.len_ #[24] 3 #[list0]) (.int .i64) fun (x8_1 : Int) => (((decide (i5 < x8_1)) = true → (QAll Try.prog (Instr.indexAt 24 list0 (.int .i64 i5)) .any fun (x14_2 : Value) => (QSub Try.prog (Instr.loadAt 2 x14_2) w (.int .i64) fun (x15_3 : Int) => (Fc Try.prog 53 #[(.int .i64 x15_3), (.int .i64 (0 : Int)), (.int .i64 (IntKind.i64.wrap (k1 - (1 : Int))))] w (.one .bool) fun (x18_5 : Bool) w_4 => (((!x18_5) = true → R (false, ()) w_4) ∧ ((!x18_5) = false → N ((list0 : Value), k1) (IntKind.i64.wrap (i5 + (1 : Int))) w_4)))))) ∧ ((decide (i5 < x8_1)) = false → D0 () w)))

abbrev L_spec_l01All_2_e0 : List Slot := [.junk, .junk, .junk, .junk, .junk, .junk, .junk, .junk, .junk, .junk, .junk, .junk, .junk, .junk, .junk, .junk, .junk, .junk, .junk, .junk]

abbrev L_spec_l01All_2_sp : List Slot := [.k .any, .k (.int .i64), .junk, .junk, .junk, .k (.int .i64), .junk, .junk, .junk, .junk, .junk, .junk, .junk, .junk, .junk, .junk, .junk, .junk, .junk, .junk]
abbrev L_spec_l01All_2_ex : List (Nat × List Slot) := [(0, L_spec_l01All_2_e0)]
abbrev L_spec_l01All_2_rt : List Slot := [.junk, .junk, .junk, .junk, .k .bool, .junk, .junk, .junk, .junk, .junk, .junk, .junk, .junk, .junk, .junk, .junk, .junk, .junk, .junk, .junk]

def L_spec_l01All_2_b (Φ : Post) (u : (Value × Int)) (N : (Value × Int) → Int → World → Prop) (s : Int) (w : World) : Prop :=
  B_spec_l01All_2 u.1 u.2 s N (fun v w => ∀ j : Nat → Value, Φ (.exit 0) (mkT j 0 L_spec_l01All_2_e0 v) w) (fun v w => ∀ j : Nat → Value, Φ .ret (mkT j 0 L_spec_l01All_2_rt v) w) w

theorem L_spec_l01All_2_eq (j : Nat → Value) (u : (Value × Int)) (s : Int) (N : (Value × Int) → Int → World → Prop) (D0 : (Unit) → World → Prop) (R : (Bool × Unit) → World → Prop) (w : World) :
    W Try.prog ty (fun _ _ _ _ => False) (loopAt Try.f72 2) (loopPost L_spec_l01All_2_sp [(0, (⟨L_spec_l01All_2_e0, D0⟩ : Door))] ⟨L_spec_l01All_2_rt, R⟩ (fun v w => N ((fun v => (v.1, v.2.1)) v) ((fun v => v.2.2.1) v) w)) (mkT j 0 L_spec_l01All_2_sp ((fun u s => (u.1, u.2, s, ())) u s)) w =
    B_spec_l01All_2 u.1 u.2 s N D0 R w := by
  kernel_rfl

def O_spec_l01All_1 : Code → Post → List SV → World → Prop :=
  orc 2 (loopAt Try.f72 2) L_spec_l01All_2_sp (fun Φ fr w => LOOP (U := (Value × Int)) (S := Int) ((fun v => (v.1, v.2.1)) (extT L_spec_l01All_2_sp fr)) (L_spec_l01All_2_b Φ ((fun v => (v.1, v.2.1)) (extT L_spec_l01All_2_sp fr))) ((fun v => v.2.2.1) (extT L_spec_l01All_2_sp fr)) w) (fun _ _ _ _ => False)

theorem O_spec_l01All_1_ok : Sound Try.prog O_spec_l01All_1 :=
  orc_ok (sound_none _) fun Φ fr w hs h => loop_ok (ty := ty) follows (sound_none _) L_spec_l01All_2_sp (fun v => (v.1, v.2.1)) (fun v => v.2.2.1) (fun u s => (u.1, u.2, s, ())) (fun _ => rfl) L_spec_l01All_2_ex L_spec_l01All_2_rt (body := L_spec_l01All_2_b Φ) (fun j u s w N hb => by
    have e := L_spec_l01All_2_eq j u s N (doorOf Φ (.exit 0) L_spec_l01All_2_e0).D (doorOf Φ .ret L_spec_l01All_2_rt).D w
    exact Eq.mpr e hb) hs h

def V_spec_l01All (list0 : Value) (k1 : Int) (w : World) (K : Bool → World → Prop) : Prop :=
  (At (loopAt Try.f72 2) (loopAt Try.f72 2) (LOOP (U := (Value × Int)) (S := Int) ((list0 : Value), k1) (fun N_12 s_13 w_14 => B_spec_l01All_2 (list0 : Value) k1 s_13 N_12 (fun (v_6 : (Unit)) w_7 => ∀ _j_8 : Nat → Value, K true w_7) (fun (v_9 : (Bool × Unit)) w_10 => ∀ _j_11 : Nat → Value, K v_9.1 w_10) w_14) (0 : Int) w))

theorem eq_spec_l01All (list0 : Value) (k1 : Int) (w : World) (K : Bool → World → Prop) :
    W Try.prog ty O_spec_l01All_1 (bodyOf Try.f72) (fnPost Try.prog Try.f72.results.toList (.one .bool) K) (frame0 [list0, (.int .i64 k1)] 20) w = V_spec_l01All list0 k1 w K := by
  kernel_rfl

theorem body_spec_l01All : Try.f72.body = some (bodyOf Try.f72) := by kernel_rfl
theorem name_spec_l01All : (Try.f72.name == "runtime.NumGoroutine") = false := by kernel_rfl

theorem walk_spec_l01All (list0 : Value) (k1 : Int) {w : World} {K : Bool → World → Prop} (h : V_spec_l01All list0 k1 w K) : Fc Try.prog 72 #[list0, (.int .i64 k1)] w (.one .bool) K :=
  fn_ok follows O_spec_l01All_1_ok Try.func72 name_spec_l01All body_spec_l01All Try.ntmps72 [list0, (.int .i64 k1)] (Eq.mpr (eq_spec_l01All list0 k1 w K) h)

-- uses S3Part
theorem c_spec_l01All {k : Int} {a : Value} {l : List Int} {w : World} {K : Bool → World → Prop} (h : SlI w a l) (k0 : -9223372036854775807 ≤ k) (k1 : k ≤ 9223372036854775807) (hK : K (decide (AllIn l 0 (k - 1))) w) :
    Fc Try.prog F_spec_l01All #[a, .int .i64 k] w (.one .bool) K := by
  have hlen := h.len
  refine walk_spec_l01All _ _ ?_
  refine lp (fun i w' => 0 ≤ i ∧ i ≤ l.length ∧ w' = w ∧ ∀ j : Nat, (j : Int) < i → 0 ≤ l.getD j 0 ∧ l.getD j 0 ≤ k - 1) (fun i _ => (l.length - i).toNat)
    ⟨by omega, by omega, rfl, fun j hj => by omega⟩ ?_
  rintro i w1 N ⟨h0, hi, rfl, hall⟩ hN
  unfold B_spec_l01All_2
  refine lenI h ⟨fun hlt => ?_, fun hge => ?_⟩
  · have hlt := dec_t hlt
    refine atI h h0 hlt ?_
    rw [wrap_small (by omega) (by omega)]
    refine c_spec_l01In _ _ _ ⟨fun hn _ => ?_, fun hy => ?_⟩
    · have hn := notd_t hn
      rwa [decide_eq_false (fun ha => hn (AllIn.get ha (by omega)))] at hK
    · have hy := notd_f hy
      rw [wrap_small (by omega) (by omega)]
      refine hN _ _ ⟨by omega, by omega, rfl, fun j hj => ?_⟩ (by omega)
      by_cases hji : (j : Int) < i
      · exact hall j hji
      · have : j = i.toNat := by omega
        subst this; exact hy
  · have hge := dec_f hge
    intro _
    rwa [decide_eq_true (allIn_of fun i hi => hall i (by omega))] at hK

end Go.Proofs.Ytlbhpbaeokgmaaa

/- The reading of spec_l07Code, and its contract. No condition. -/
namespace Go.Proofs.Ytlbhpbaeokgmaaa
open Go Go.RowKit Eng Mem
set_option linter.unusedVariables false
set_option maxRecDepth 100000
def V_spec_l07Code (k0 : Int) (part1 : Value) (kind2 : Int) (w : World) (K : Int → World → Prop) : Prop :=
  (Fc Try.prog 53 #[(.int .i64 k0), (.int .i64 (1 : Int)), (.int .i64 (3 : Int))] w (.one .bool) fun (x8_2 : Bool) w_1 => (((!x8_2) = true → K (2 : Int) w_1) ∧ ((!x8_2) = false → (QAll Try.prog (Builtin.len_ #[24] 3 #[part1]) (.int .i64) fun (x12_3 : Int) => (((decide (x12_3 > (40 : Int))) = true → K (2 : Int) w_1) ∧ ((decide (x12_3 > (40 : Int))) = false → (Fc Try.prog 72 #[part1, (.int .i64 k0)] w_1 (.one .bool) fun (x18_5 : Bool) w_4 => (((!x18_5) = true → K (2 : Int) w_4) ∧ ((!x18_5) = false → (Fc Try.prog 53 #[(.int .i64 kind2), (.int .i64 (0 : Int)), (.int .i64 (2 : Int))] w_4 (.one .bool) fun (x23_7 : Bool) w_6 => (((!x23_7) = true → K (2 : Int) w_6) ∧ ((!x23_7) = false → K (0 : Int) w_6))))))))))))

theorem eq_spec_l07Code (k0 : Int) (part1 : Value) (kind2 : Int) (w : World) (K : Int → World → Prop) :
    W Try.prog ty (fun _ _ _ _ => False) (bodyOf Try.f38) (fnPost Try.prog Try.f38.results.toList (.one (.int .i64)) K) (frame0 [(.int .i64 k0), part1, (.int .i64 kind2)] 26) w = V_spec_l07Code k0 part1 kind2 w K := by
  kernel_rfl

theorem body_spec_l07Code : Try.f38.body = some (bodyOf Try.f38) := by kernel_rfl
theorem name_spec_l07Code : (Try.f38.name == "runtime.NumGoroutine") = false := by kernel_rfl

theorem walk_spec_l07Code (k0 : Int) (part1 : Value) (kind2 : Int) {w : World} {K : Int → World → Prop} (h : V_spec_l07Code k0 part1 kind2 w K) : Fc Try.prog 38 #[(.int .i64 k0), part1, (.int .i64 kind2)] w (.one (.int .i64)) K :=
  fn_ok follows (sound_none _) Try.func38 name_spec_l07Code body_spec_l07Code Try.ntmps38 [(.int .i64 k0), part1, (.int .i64 kind2)] (Eq.mpr (eq_spec_l07Code k0 part1 kind2 w K) h)

-- uses S3Part
theorem c_spec_l07Code {k kind : Int} {a : Value} {l : List Int} {w : World} {K : Int → World → Prop} (h : SlI w a l) (hK : K (if IsPart k l ∧ 0 ≤ kind ∧ kind ≤ 2 then 0 else 2) w) :
    Fc Try.prog F_spec_l07Code #[.int .i64 k, a, .int .i64 kind] w (.one (.int .i64)) K := by
  have no : ¬ (IsPart k l ∧ 0 ≤ kind ∧ kind ≤ 2) → K 2 w := fun hn => by rwa [if_neg hn] at hK
  refine walk_spec_l07Code _ _ _ (c_spec_l01In _ _ _ ⟨fun h1 => no fun hp => notd_t h1 ⟨hp.1.1, hp.1.2.1⟩, fun h1 => ?_⟩)
  have h1 := notd_f h1
  refine lenI h ⟨fun h2 => no fun hp => by have := dec_t h2; have := hp.1.2.2.1; omega, fun h2 => ?_⟩
  have h2 := dec_f h2
  refine c_spec_l01All h (by omega) (by omega) ⟨fun h3 => no fun hp => notd_t h3 hp.1.2.2.2, fun h3 => ?_⟩
  have h3 := notd_f h3
  refine c_spec_l01In _ _ _ ⟨fun h4 => no fun hp => notd_t h4 hp.2, fun h4 => ?_⟩
  have h4 := notd_f h4
  rwa [if_pos ⟨⟨h1.1, h1.2, by omega, h3⟩, h4⟩] at hK

end Go.Proofs.Ytlbhpbaeokgmaaa

/- The reading of spec_l07At, and its contract. No condition. -/
namespace Go.Proofs.Ytlbhpbaeokgmaaa
open Go Go.RowKit Eng Mem
set_option linter.unusedVariables false
set_option maxRecDepth 100000
def V_spec_l07At (part0 : Value) (kind1 : Int) (y2 : Int) (z3 : Int) (w : World) (K : Int → World → Prop) : Prop :=
  (((kind1 == (2 : Int)) = true → (∀ w_1, Drew w w_1 → (((decide ((IntKind.i64.wrap ((IntKind.i64.wrap ((2 : Int) * y2)) - z3)) < (1 : Int))) = true → K (0 : Int) w_1) ∧ ((decide ((IntKind.i64.wrap ((IntKind.i64.wrap ((2 : Int) * y2)) - z3)) < (1 : Int))) = false → (((decide ((IntKind.i64.wrap ((IntKind.i64.wrap ((2 : Int) * y2)) - z3)) > y2)) = true → K (0 : Int) w_1) ∧ ((decide ((IntKind.i64.wrap ((IntKind.i64.wrap ((2 : Int) * y2)) - z3)) > y2)) = false → (((decide (kind1 > (0 : Int))) = true → ((((IntKind.i64.wrap ((IntKind.i64.wrap ((2 : Int) * y2)) - z3)) == y2) = true → K (0 : Int) w_1) ∧ (((IntKind.i64.wrap ((IntKind.i64.wrap ((2 : Int) * y2)) - z3)) == y2) = false → (QAll Try.prog (Instr.indexAt 24 part0 (.int .i64 (IntKind.i64.wrap ((IntKind.i64.wrap ((IntKind.i64.wrap ((2 : Int) * y2)) - z3)) - (1 : Int))))) .any fun (x39_2 : Value) => (QSub Try.prog (Instr.loadAt 2 x39_2) w_1 (.int .i64) fun (x40_3 : Int) => (QAll Try.prog (Instr.indexAt 24 part0 (.int .i64 (IntKind.i64.wrap (y2 - (1 : Int))))) .any fun (x44_4 : Value) => (QSub Try.prog (Instr.loadAt 2 x44_4) w_1 (.int .i64) fun (x45_5 : Int) => (((x40_3 != x45_5) = true → K (0 : Int) w_1) ∧ ((x40_3 != x45_5) = false → (QAll Try.prog (Instr.indexAt 24 part0 (.int .i64 (IntKind.i64.wrap (y2 - (1 : Int))))) .any fun (x52_6 : Value) => (QSub Try.prog (Instr.loadAt 2 x52_6) w_1 (.int .i64) fun (x53_7 : Int) => (QAll Try.prog (Instr.indexAt 24 part0 (.int .i64 (IntKind.i64.wrap (z3 - (1 : Int))))) .any fun (x57_8 : Value) => (QSub Try.prog (Instr.loadAt 2 x57_8) w_1 (.int .i64) fun (x58_9 : Int) => (((x53_7 != x58_9) = true → K (0 : Int) w_1) ∧ ((x53_7 != x58_9) = false → K (IntKind.i64.wrap ((IntKind.i64.wrap ((2 : Int) * y2)) - z3)) w_1))))))))))))))) ∧ ((decide (kind1 > (0 : Int))) = false → (QAll Try.prog (Instr.indexAt 24 part0 (.int .i64 (IntKind.i64.wrap ((IntKind.i64.wrap ((IntKind.i64.wrap ((2 : Int) * y2)) - z3)) - (1 : Int))))) .any fun (x39_10 : Value) => (QSub Try.prog (Instr.loadAt 2 x39_10) w_1 (.int .i64) fun (x40_11 : Int) => (QAll Try.prog (Instr.indexAt 24 part0 (.int .i64 (IntKind.i64.wrap (y2 - (1 : Int))))) .any fun (x44_12 : Value) => (QSub Try.prog (Instr.loadAt 2 x44_12) w_1 (.int .i64) fun (x45_13 : Int) => (((x40_11 != x45_13) = true → K (0 : Int) w_1) ∧ ((x40_11 != x45_13) = false → (QAll Try.prog (Instr.indexAt 24 part0 (.int .i64 (IntKind.i64.wrap (y2 - (1 : Int))))) .any fun (x52_14 : Value) => (QSub Try.prog (Instr.loadAt 2 x52_14) w_1 (.int .i64) fun (x53_15 : Int) => (QAll Try.prog (Instr.indexAt 24 part0 (.int .i64 (IntKind.i64.wrap (z3 - (1 : Int))))) .any fun (x57_16 : Value) => (QSub Try.prog (Instr.loadAt 2 x57_16) w_1 (.int .i64) fun (x58_17 : Int) => (((x53_15 != x58_17) = true → K (0 : Int) w_1) ∧ ((x53_15 != x58_17) = false → K (IntKind.i64.wrap ((IntKind.i64.wrap ((2 : Int) * y2)) - z3)) w_1)))))))))))))))))))) ∧ ((kind1 == (2 : Int)) = false → (∀ w_18, Drew w w_18 → (((decide ((IntKind.i64.wrap (z3 - y2)) < (1 : Int))) = true → K (0 : Int) w_18) ∧ ((decide ((IntKind.i64.wrap (z3 - y2)) < (1 : Int))) = false → (((decide ((IntKind.i64.wrap (z3 - y2)) > y2)) = true → K (0 : Int) w_18) ∧ ((decide ((IntKind.i64.wrap (z3 - y2)) > y2)) = false → (((decide (kind1 > (0 : Int))) = true → ((((IntKind.i64.wrap (z3 - y2)) == y2) = true → K (0 : Int) w_18) ∧ (((IntKind.i64.wrap (z3 - y2)) == y2) = false → (QAll Try.prog (Instr.indexAt 24 part0 (.int .i64 (IntKind.i64.wrap ((IntKind.i64.wrap (z3 - y2)) - (1 : Int))))) .any fun (x39_19 : Value) => (QSub Try.prog (Instr.loadAt 2 x39_19) w_18 (.int .i64) fun (x40_20 : Int) => (QAll Try.prog (Instr.indexAt 24 part0 (.int .i64 (IntKind.i64.wrap (y2 - (1 : Int))))) .any fun (x44_21 : Value) => (QSub Try.prog (Instr.loadAt 2 x44_21) w_18 (.int .i64) fun (x45_22 : Int) => (((x40_20 != x45_22) = true → K (0 : Int) w_18) ∧ ((x40_20 != x45_22) = false → (QAll Try.prog (Instr.indexAt 24 part0 (.int .i64 (IntKind.i64.wrap (y2 - (1 : Int))))) .any fun (x52_23 : Value) => (QSub Try.prog (Instr.loadAt 2 x52_23) w_18 (.int .i64) fun (x53_24 : Int) => (QAll Try.prog (Instr.indexAt 24 part0 (.int .i64 (IntKind.i64.wrap (z3 - (1 : Int))))) .any fun (x57_25 : Value) => (QSub Try.prog (Instr.loadAt 2 x57_25) w_18 (.int .i64) fun (x58_26 : Int) => (((x53_24 != x58_26) = true → K (0 : Int) w_18) ∧ ((x53_24 != x58_26) = false → K (IntKind.i64.wrap (z3 - y2)) w_18))))))))))))))) ∧ ((decide (kind1 > (0 : Int))) = false → (QAll Try.prog (Instr.indexAt 24 part0 (.int .i64 (IntKind.i64.wrap ((IntKind.i64.wrap (z3 - y2)) - (1 : Int))))) .any fun (x39_27 : Value) => (QSub Try.prog (Instr.loadAt 2 x39_27) w_18 (.int .i64) fun (x40_28 : Int) => (QAll Try.prog (Instr.indexAt 24 part0 (.int .i64 (IntKind.i64.wrap (y2 - (1 : Int))))) .any fun (x44_29 : Value) => (QSub Try.prog (Instr.loadAt 2 x44_29) w_18 (.int .i64) fun (x45_30 : Int) => (((x40_28 != x45_30) = true → K (0 : Int) w_18) ∧ ((x40_28 != x45_30) = false → (QAll Try.prog (Instr.indexAt 24 part0 (.int .i64 (IntKind.i64.wrap (y2 - (1 : Int))))) .any fun (x52_31 : Value) => (QSub Try.prog (Instr.loadAt 2 x52_31) w_18 (.int .i64) fun (x53_32 : Int) => (QAll Try.prog (Instr.indexAt 24 part0 (.int .i64 (IntKind.i64.wrap (z3 - (1 : Int))))) .any fun (x57_33 : Value) => (QSub Try.prog (Instr.loadAt 2 x57_33) w_18 (.int .i64) fun (x58_34 : Int) => (((x53_32 != x58_34) = true → K (0 : Int) w_18) ∧ ((x53_32 != x58_34) = false → K (IntKind.i64.wrap (z3 - y2)) w_18)))))))))))))))))))))

theorem eq_spec_l07At (part0 : Value) (kind1 : Int) (y2 : Int) (z3 : Int) (w : World) (K : Int → World → Prop) :
    W Try.prog ty (fun _ _ _ _ => False) (bodyOf Try.f41) (fnPost Try.prog Try.f41.results.toList (.one (.int .i64)) K) (frame0 [part0, (.int .i64 kind1), (.int .i64 y2), (.int .i64 z3)] 62) w = V_spec_l07At part0 kind1 y2 z3 w K := by
  kernel_rfl

theorem body_spec_l07At : Try.f41.body = some (bodyOf Try.f41) := by kernel_rfl
theorem name_spec_l07At : (Try.f41.name == "runtime.NumGoroutine") = false := by kernel_rfl

theorem walk_spec_l07At (part0 : Value) (kind1 : Int) (y2 : Int) (z3 : Int) {w : World} {K : Int → World → Prop} (h : V_spec_l07At part0 kind1 y2 z3 w K) : Fc Try.prog 41 #[part0, (.int .i64 kind1), (.int .i64 y2), (.int .i64 z3)] w (.one (.int .i64)) K :=
  fn_ok follows (sound_none _) Try.func41 name_spec_l07At body_spec_l07At Try.ntmps41 [part0, (.int .i64 kind1), (.int .i64 y2), (.int .i64 z3)] (Eq.mpr (eq_spec_l07At part0 kind1 y2 z3 w K) h)

-- uses S8Fault
theorem c_spec_l07At {a : Value} {l : List Int} {kind y z : Int} {w : World} {K : Int → World → Prop} (h : SlI w a l) (hl : l.length ≤ 41) (y0 : 1 ≤ y) (y1 : y < z) (z1 : z ≤ l.length)
    (hK : ∀ w', Below w.heap.size w w' → K (if IsF l kind y z then xF kind y z else 0) w') : Fc Try.prog F_spec_l07At #[a, .int .i64 kind, .int .i64 y, .int .i64 z] w (.one (.int .i64)) K := by
  refine walk_spec_l07At _ _ _ _ ?_
  refine ⟨fun hk w1 hd => ?_, fun hk w1 hd => ?_⟩
  · have hk := eq_t hk
    have e : IntKind.i64.wrap (IntKind.i64.wrap (2 * y) - z) = 2 * y - z := by rw [wrap_small (n := 2 * y) (by omega) (by omega), wrap_small (by omega) (by omega)]
    rw [e]
    have hx : 2 * y - z = xF kind y z := by rw [xF, if_pos hk]
    have hx0 : 2 * y - z ≤ 1000 ∧ -1000 ≤ 2 * y - z := by omega
    generalize 2 * y - z = x at *
    have hb := hd.below w.heap.size
    have hs := h.keep hb
    have k := hK w1 hb
    have no : ¬ IsF l kind y z → K 0 w1 := fun hn => by rwa [if_neg hn] at k
    have yes : IsF l kind y z → K x w1 := fun hn => by rwa [if_pos hn, ← hx] at k
    unfold IsF at no yes
    rw [← hx] at no yes
    refine ⟨fun e => no fun hh => by have := dec_t e; omega, fun e1 => ⟨fun e => no fun hh => by have := dec_t e; omega, fun e2 => ?_⟩⟩
    have e1 := dec_f e1
    have e2 := dec_f e2
    refine ⟨fun e3 => ⟨fun e => no fun hh => hh.2.2.1 ⟨dec_t e3, eq_t e⟩, fun e4 => ?_⟩, fun e3 => ?_⟩
    · have hkk : ¬ (kind > 0 ∧ x = y) := fun hh => eq_f e4 hh.2
      rw [wrap_small (n := x - 1) (by omega) (by omega), wrap_small (n := y - 1) (by omega) (by omega), wrap_small (n := z - 1) (by omega) (by omega)]
      refine atI hs (by omega) (by omega) (atI hs (by omega) (by omega) ⟨fun e => no fun hh => ne_t e hh.2.2.2.1, fun e3 => ?_⟩)
      have e3 := ne_f e3
      refine atI hs (by omega) (by omega) (atI hs (by omega) (by omega) ⟨fun e => no fun hh => ne_t e hh.2.2.2.2, fun e4 => ?_⟩)
      have e4 := ne_f e4
      exact yes ⟨by omega, by omega, hkk, e3, e4⟩
    · have hkk : ¬ (kind > 0 ∧ x = y) := fun hh => dec_f e3 hh.1
      rw [wrap_small (n := x - 1) (by omega) (by omega), wrap_small (n := y - 1) (by omega) (by omega), wrap_small (n := z - 1) (by omega) (by omega)]
      refine atI hs (by omega) (by omega) (atI hs (by omega) (by omega) ⟨fun e => no fun hh => ne_t e hh.2.2.2.1, fun e3 => ?_⟩)
      have e3 := ne_f e3
      refine atI hs (by omega) (by omega) (atI hs (by omega) (by omega) ⟨fun e => no fun hh => ne_t e hh.2.2.2.2, fun e4 => ?_⟩)
      have e4 := ne_f e4
      exact yes ⟨by omega, by omega, hkk, e3, e4⟩
  · have hk := eq_f hk
    have e : IntKind.i64.wrap (z - y) = z - y := wrap_small (by omega) (by omega)
    rw [e]
    have hx : z - y = xF kind y z := by rw [xF, if_neg hk]
    have hx0 : z - y ≤ 1000 ∧ -1000 ≤ z - y := by omega
    generalize z - y = x at *
    have hb := hd.below w.heap.size
    have hs := h.keep hb
    have k := hK w1 hb
    have no : ¬ IsF l kind y z → K 0 w1 := fun hn => by rwa [if_neg hn] at k
    have yes : IsF l kind y z → K x w1 := fun hn => by rwa [if_pos hn, ← hx] at k
    unfold IsF at no yes
    rw [← hx] at no yes
    refine ⟨fun e => no fun hh => by have := dec_t e; omega, fun e1 => ⟨fun e => no fun hh => by have := dec_t e; omega, fun e2 => ?_⟩⟩
    have e1 := dec_f e1
    have e2 := dec_f e2
    refine ⟨fun e3 => ⟨fun e => no fun hh => hh.2.2.1 ⟨dec_t e3, eq_t e⟩, fun e4 => ?_⟩, fun e3 => ?_⟩
    · have hkk : ¬ (kind > 0 ∧ x = y) := fun hh => eq_f e4 hh.2
      rw [wrap_small (n := x - 1) (by omega) (by omega), wrap_small (n := y - 1) (by omega) (by omega), wrap_small (n := z - 1) (by omega) (by omega)]
      refine atI hs (by omega) (by omega) (atI hs (by omega) (by omega) ⟨fun e => no fun hh => ne_t e hh.2.2.2.1, fun e3 => ?_⟩)
      have e3 := ne_f e3
      refine atI hs (by omega) (by omega) (atI hs (by omega) (by omega) ⟨fun e => no fun hh => ne_t e hh.2.2.2.2, fun e4 => ?_⟩)
      have e4 := ne_f e4
      exact yes ⟨by omega, by omega, hkk, e3, e4⟩
    · have hkk : ¬ (kind > 0 ∧ x = y) := fun hh => dec_f e3 hh.1
      rw [wrap_small (n := x - 1) (by omega) (by omega), wrap_small (n := y - 1) (by omega) (by omega), wrap_small (n := z - 1) (by omega) (by omega)]
      refine atI hs (by omega) (by omega) (atI hs (by omega) (by omega) ⟨fun e => no fun hh => ne_t e hh.2.2.2.1, fun e3 => ?_⟩)
      have e3 := ne_f e3
      refine atI hs (by omega) (by omega) (atI hs (by omega) (by omega) ⟨fun e => no fun hh => ne_t e hh.2.2.2.2, fun e4 => ?_⟩)
      have e4 := ne_f e4
      exact yes ⟨by omega, by omega, hkk, e3, e4⟩

end Go.Proofs.Ytlbhpbaeokgmaaa

/- The reading of spec_l07Fault, and its contract. No condition. -/
namespace Go.Proofs.Ytlbhpbaeokgmaaa
open Go Go.RowKit Eng Mem
set_option linter.unusedVariables false
set_option maxRecDepth 100000
def B_spec_l07Fault_5 (part0 : Value) (kind1 : Int) (z7 : Int) (y8 : Int) (N : (Value × Int × Int) → Int → World → Prop) (D2 : (Value × Int × Int × Unit) → World → Prop) (R : (Value × Unit) → World → Prop) (w : World) : Prop :=
  (((decide (y8 < z7)) = true → (Fc Try.prog 41 #[part0, (.int .i64 kind1), (.int .i64 y8), (.int .i64 z7)] w (.one (.int .i64)) fun (x26_3 : Int) w_2 => (((decide (x26_3 > (0 : Int))) = true → (Pr Try.prog (Instr.buildSlice 24 3 #[(0, (.int .i64 x26_3)), (1, (.int .i64 y8)), (2, (.int .i64 z7))]) w_2 (.one .any) fun (x32_5 : Value) w_4 => R ((x32_5 : Value), ()) w_4)) ∧ ((decide (x26_3 > (0 : Int))) = false → N ((part0 : Value), kind1, z7) (IntKind.i64.wrap (y8 + (1 : Int))) w_2)))) ∧ ((decide (y8 < z7)) = false → D2 ((part0 : Value), kind1, z7, ()) w))

abbrev L_spec_l07Fault_5_e2 : List Slot := [.k .any, .k (.int .i64), .junk, .junk, .junk, .junk, .junk, .k (.int .i64), .junk, .junk, .junk, .junk, .junk, .junk, .junk, .junk, .junk, .junk, .junk, .junk, .junk, .junk, .junk, .junk, .junk, .junk, .junk, .junk, .junk, .junk, .junk, .junk, .junk, .junk]

abbrev L_spec_l07Fault_5_sp : List Slot := [.k .any, .k (.int .i64), .junk, .junk, .junk, .junk, .junk, .k (.int .i64), .k (.int .i64), .junk, .junk, .junk, .junk, .junk, .junk, .junk, .junk, .junk, .junk, .junk, .junk, .junk, .junk, .junk, .junk, .junk, .junk, .junk, .junk, .junk, .junk, .junk, .junk, .junk]
abbrev L_spec_l07Fault_5_ex : List (Nat × List Slot) := [(2, L_spec_l07Fault_5_e2)]
abbrev L_spec_l07Fault_5_rt : List Slot := [.junk, .junk, .junk, .junk, .junk, .junk, .k .any, .junk, .junk, .junk, .junk, .junk, .junk, .junk, .junk, .junk, .junk, .junk, .junk, .junk, .junk, .junk, .junk, .junk, .junk, .junk, .junk, .junk, .junk, .junk, .junk, .junk, .junk, .junk]

def L_spec_l07Fault_5_b (Φ : Post) (u : (Value × Int × Int)) (N : (Value × Int × Int) → Int → World → Prop) (s : Int) (w : World) : Prop :=
  B_spec_l07Fault_5 u.1 u.2.1 u.2.2 s N (fun v w => ∀ j : Nat → Value, Φ (.exit 2) (mkT j 0 L_spec_l07Fault_5_e2 v) w) (fun v w => ∀ j : Nat → Value, Φ .ret (mkT j 0 L_spec_l07Fault_5_rt v) w) w

theorem L_spec_l07Fault_5_eq (j : Nat → Value) (u : (Value × Int × Int)) (s : Int) (N : (Value × Int × Int) → Int → World → Prop) (D2 : (Value × Int × Int × Unit) → World → Prop) (R : (Value × Unit) → World → Prop) (w : World) :
    W Try.prog ty (fun _ _ _ _ => False) (loopAt Try.f39 5) (loopPost L_spec_l07Fault_5_sp [(2, (⟨L_spec_l07Fault_5_e2, D2⟩ : Door))] ⟨L_spec_l07Fault_5_rt, R⟩ (fun v w => N ((fun v => (v.1, v.2.1, v.2.2.1)) v) ((fun v => v.2.2.2.1) v) w)) (mkT j 0 L_spec_l07Fault_5_sp ((fun u s => (u.1, u.2.1, u.2.2, s, ())) u s)) w =
    B_spec_l07Fault_5 u.1 u.2.1 u.2.2 s N D2 R w := by
  kernel_rfl

def O_spec_l07Fault_1 : Code → Post → List SV → World → Prop :=
  orc 5 (loopAt Try.f39 5) L_spec_l07Fault_5_sp (fun Φ fr w => LOOP (U := (Value × Int × Int)) (S := Int) ((fun v => (v.1, v.2.1, v.2.2.1)) (extT L_spec_l07Fault_5_sp fr)) (L_spec_l07Fault_5_b Φ ((fun v => (v.1, v.2.1, v.2.2.1)) (extT L_spec_l07Fault_5_sp fr))) ((fun v => v.2.2.2.1) (extT L_spec_l07Fault_5_sp fr)) w) (fun _ _ _ _ => False)

theorem O_spec_l07Fault_1_ok : Sound Try.prog O_spec_l07Fault_1 :=
  orc_ok (sound_none _) fun Φ fr w hs h => loop_ok (ty := ty) follows (sound_none _) L_spec_l07Fault_5_sp (fun v => (v.1, v.2.1, v.2.2.1)) (fun v => v.2.2.2.1) (fun u s => (u.1, u.2.1, u.2.2, s, ())) (fun _ => rfl) L_spec_l07Fault_5_ex L_spec_l07Fault_5_rt (body := L_spec_l07Fault_5_b Φ) (fun j u s w N hb => by
    have e := L_spec_l07Fault_5_eq j u s N (doorOf Φ (.exit 2) L_spec_l07Fault_5_e2).D (doorOf Φ .ret L_spec_l07Fault_5_rt).D w
    exact Eq.mpr e hb) hs h

def B_spec_l07Fault_2 (part0 : Value) (kind1 : Int) (z7 : Int) (N : (Value × Int) → Int → World → Prop) (D0 : (Unit) → World → Prop) (R : (Value × Unit) → World → Prop) (w : World) : Prop :=
  (QAll Try.prog (Builtin.len_ #[24] 3 #[part0]) (.int .i64) fun (x13_1 : Int) => (((decide (z7 ≤ x13_1)) = true → (At (loopAt Try.f39 5) (loopAt Try.f39 5) (LOOP (U := (Value × Int × Int)) (S := Int) ((part0 : Value), kind1, z7) (fun N_12 s_13 w_14 => B_spec_l07Fault_5 (part0 : Value) kind1 z7 s_13 N_12 (fun (v_6 : (Value × Int × Int × Unit)) w_7 => ∀ _j_8 : Nat → Value, N ((v_6.1 : Value), v_6.2.1) (IntKind.i64.wrap (v_6.2.2.1 + (1 : Int))) w_7) (fun (v_9 : (Value × Unit)) w_10 => ∀ _j_11 : Nat → Value, R ((v_9.1 : Value), ()) w_10) w_14) (1 : Int) w))) ∧ ((decide (z7 ≤ x13_1)) = false → D0 () w)))

abbrev L_spec_l07Fault_2_e0 : List Slot := [.junk, .junk, .junk, .junk, .junk, .junk, .junk, .junk, .junk, .junk, .junk, .junk, .junk, .junk, .junk, .junk, .junk, .junk, .junk, .junk, .junk, .junk, .junk, .junk, .junk, .junk, .junk, .junk, .junk, .junk, .junk, .junk, .junk, .junk]

abbrev L_spec_l07Fault_2_sp : List Slot := [.k .any, .k (.int .i64), .junk, .junk, .junk, .junk, .junk, .k (.int .i64), .junk, .junk, .junk, .junk, .junk, .junk, .junk, .junk, .junk, .junk, .junk, .junk, .junk, .junk, .junk, .junk, .junk, .junk, .junk, .junk, .junk, .junk, .junk, .junk, .junk, .junk]
abbrev L_spec_l07Fault_2_ex : List (Nat × List Slot) := [(0, L_spec_l07Fault_2_e0)]
abbrev L_spec_l07Fault_2_rt : List Slot := [.junk, .junk, .junk, .junk, .junk, .junk, .k .any, .junk, .junk, .junk, .junk, .junk, .junk, .junk, .junk, .junk, .junk, .junk, .junk, .junk, .junk, .junk, .junk, .junk, .junk, .junk, .junk, .junk, .junk, .junk, .junk, .junk, .junk, .junk]

def L_spec_l07Fault_2_b (Φ : Post) (u : (Value × Int)) (N : (Value × Int) → Int → World → Prop) (s : Int) (w : World) : Prop :=
  B_spec_l07Fault_2 u.1 u.2 s N (fun v w => ∀ j : Nat → Value, Φ (.exit 0) (mkT j 0 L_spec_l07Fault_2_e0 v) w) (fun v w => ∀ j : Nat → Value, Φ .ret (mkT j 0 L_spec_l07Fault_2_rt v) w) w

theorem L_spec_l07Fault_2_eq (j : Nat → Value) (u : (Value × Int)) (s : Int) (N : (Value × Int) → Int → World → Prop) (D0 : (Unit) → World → Prop) (R : (Value × Unit) → World → Prop) (w : World) :
    W Try.prog ty O_spec_l07Fault_1 (loopAt Try.f39 2) (loopPost L_spec_l07Fault_2_sp [(0, (⟨L_spec_l07Fault_2_e0, D0⟩ : Door))] ⟨L_spec_l07Fault_2_rt, R⟩ (fun v w => N ((fun v => (v.1, v.2.1)) v) ((fun v => v.2.2.1) v) w)) (mkT j 0 L_spec_l07Fault_2_sp ((fun u s => (u.1, u.2, s, ())) u s)) w =
    B_spec_l07Fault_2 u.1 u.2 s N D0 R w := by
  kernel_rfl

def O_spec_l07Fault_2 : Code → Post → List SV → World → Prop :=
  orc 2 (loopAt Try.f39 2) L_spec_l07Fault_2_sp (fun Φ fr w => LOOP (U := (Value × Int)) (S := Int) ((fun v => (v.1, v.2.1)) (extT L_spec_l07Fault_2_sp fr)) (L_spec_l07Fault_2_b Φ ((fun v => (v.1, v.2.1)) (extT L_spec_l07Fault_2_sp fr))) ((fun v => v.2.2.1) (extT L_spec_l07Fault_2_sp fr)) w) O_spec_l07Fault_1

theorem O_spec_l07Fault_2_ok : Sound Try.prog O_spec_l07Fault_2 :=
  orc_ok O_spec_l07Fault_1_ok fun Φ fr w hs h => loop_ok (ty := ty) follows O_spec_l07Fault_1_ok L_spec_l07Fault_2_sp (fun v => (v.1, v.2.1)) (fun v => v.2.2.1) (fun u s => (u.1, u.2, s, ())) (fun _ => rfl) L_spec_l07Fault_2_ex L_spec_l07Fault_2_rt (body := L_spec_l07Fault_2_b Φ) (fun j u s w N hb => by
    have e := L_spec_l07Fault_2_eq j u s N (doorOf Φ (.exit 0) L_spec_l07Fault_2_e0).D (doorOf Φ .ret L_spec_l07Fault_2_rt).D w
    exact Eq.mpr e hb) hs h

def V_spec_l07Fault (part0 : Value) (kind1 : Int) (from2 : Int) (w : World) (K : Value → World → Prop) : Prop :=
  (At (loopAt Try.f39 2) (loopAt Try.f39 2) (LOOP (U := (Value × Int)) (S := Int) ((part0 : Value), kind1) (fun N_23 s_24 w_25 => B_spec_l07Fault_2 (part0 : Value) kind1 s_24 N_23 (fun (v_15 : (Unit)) w_16 => ∀ _j_17 : Nat → Value, (Pr Try.prog (Instr.buildSlice 24 0 #[]) w_16 (.one .any) fun (x33_19 : Value) w_18 => K (x33_19 : Value) w_18)) (fun (v_20 : (Value × Unit)) w_21 => ∀ _j_22 : Nat → Value, K (v_20.1 : Value) w_21) w_25) from2 w))

theorem eq_spec_l07Fault (part0 : Value) (kind1 : Int) (from2 : Int) (w : World) (K : Value → World → Prop) :
    W Try.prog ty O_spec_l07Fault_2 (bodyOf Try.f39) (fnPost Try.prog Try.f39.results.toList (.one .any) K) (frame0 [part0, (.int .i64 kind1), (.int .i64 from2)] 34) w = V_spec_l07Fault part0 kind1 from2 w K := by
  kernel_rfl

theorem body_spec_l07Fault : Try.f39.body = some (bodyOf Try.f39) := by kernel_rfl
theorem name_spec_l07Fault : (Try.f39.name == "runtime.NumGoroutine") = false := by kernel_rfl

theorem walk_spec_l07Fault (part0 : Value) (kind1 : Int) (from2 : Int) {w : World} {K : Value → World → Prop} (h : V_spec_l07Fault part0 kind1 from2 w K) : Fc Try.prog 39 #[part0, (.int .i64 kind1), (.int .i64 from2)] w (.one .any) K :=
  fn_ok follows O_spec_l07Fault_2_ok Try.func39 name_spec_l07Fault body_spec_l07Fault Try.ntmps39 [part0, (.int .i64 kind1), (.int .i64 from2)] (Eq.mpr (eq_spec_l07Fault part0 kind1 from2 w K) h)

-- uses S8Fault
theorem c_spec_l07Fault {a : Value} {l : List Int} {kind from_ : Int} {w : World} {K : Value → World → Prop} (h : SlI w a l) (hl : l.length ≤ 41) (f0 : 1 ≤ from_) (f1 : from_ ≤ l.length + 1)
    (hK : ∀ w' v, Below w.heap.size w w' → MyI w.heap.size w'.heap.size w' v ((faR l kind (from_ - 1).toNat (l.length + 1 - from_).toNat).headD []) → K v w') :
    Fc Try.prog F_spec_l07Fault #[a, .int .i64 kind, .int .i64 from_] w (.one .any) K := by
  obtain ⟨c, hc⟩ : ∃ c, (from_ - 1).toNat = c := ⟨_, rfl⟩
  rw [hc] at hK
  refine walk_spec_l07Fault _ _ _ ?_
  refine lp (fun z w' => from_ ≤ z ∧ z ≤ l.length + 1 ∧ Below w.heap.size w w' ∧ faR l kind c (z - from_).toNat = []) (fun z _ => (l.length + 1 - z).toNat) ⟨by omega, by omega, Below.refl _ _, by simp [faR]⟩ ?_
  rintro z w1 N ⟨z0, z1, hb, hz⟩ hN
  unfold B_spec_l07Fault_2
  refine lenI (h.keep hb) ⟨fun hle => ?_, fun hgt => ?_⟩
  · have hle := dec_t hle
    have hstep := faR_succ l kind c (z - from_).toNat
    rw [hz, List.nil_append, show ((c + (z - from_).toNat : Nat) : Int) + 1 = z from by omega, show c + (z - from_).toNat = (z - 1).toNat from by omega] at hstep
    have hmore : ∀ m, (z - from_).toNat + 1 + m = (l.length + 1 - from_).toNat → ∀ t r, fz3 l kind z (z - 1).toNat = t :: r → (faR l kind c (l.length + 1 - from_).toNat).headD [] = t := fun m hm t r ht => by
      have : ∀ m, ∃ s, faR l kind c ((z - from_).toNat + 1 + m) = fz3 l kind z (z - 1).toNat ++ s := fun m => by
        induction m with
        | zero => exact ⟨[], by rw [Nat.add_zero, hstep, List.append_nil]⟩
        | succ m ih =>
          obtain ⟨s, hs⟩ := ih
          exact ⟨_, by rw [← Nat.add_assoc, faR_succ, hs, List.append_assoc]⟩
      obtain ⟨s, hs⟩ := this m
      rw [← hm, hs, ht]
      rfl
    refine lp (fun y w' => 1 ≤ y ∧ y ≤ (if z ≤ 1 then 1 else z) ∧ Below w.heap.size w w' ∧ fz l kind z (y - 1).toNat = []) (fun y _ => (z - y).toNat) ⟨by omega, by split <;> omega, hb, by simp [fz]⟩ ?_
    rintro y w2 N' ⟨y0, y1, hb2, hy⟩ hN'
    unfold B_spec_l07Fault_5
    refine ⟨fun hlt => ?_, fun hge => ?_⟩
    · have hlt := dec_t hlt
      refine c_spec_l07At (h.keep hb2) hl y0 hlt hle fun w3 hb3 => ?_
      have hbb := hb2.trans (hb3.mono hb2.size)
      have hsucc := fz_succ l kind z (y - 1).toNat
      rw [show (((y - 1).toNat : Int) + 1) = y from by omega, hy, List.nil_append] at hsucc
      by_cases hi : IsF l kind y z
      · rw [if_pos hi] at hsucc ⊢
        refine ⟨fun _ => mk3 ySI rfl rfl rfl fun b w4 n4 ho => ?_, fun hn => absurd hi.1 (by have := dec_f hn; omega)⟩
        intro _ _
        have hall : ∀ m, ∃ s, fz l kind z ((y - 1).toNat + 1 + m) = (xF kind y z, y) :: s := fun m => by
          induction m with
          | zero => exact ⟨[], by rw [Nat.add_zero, hsucc]⟩
          | succ m ih =>
            obtain ⟨s, hs⟩ := ih
            exact ⟨_, by rw [← Nat.add_assoc, fz_succ, hs, List.cons_append]⟩
        obtain ⟨s, hs⟩ := hall (z - 1 - y).toNat
        rw [show (y - 1).toNat + 1 + (z - 1 - y).toNat = (z - 1).toNat from by omega] at hs
        have ht := hmore ((l.length + 1 - from_).toNat - ((z - from_).toNat + 1)) (by omega) [xF kind y z, y, z] (s.map fun p => [p.1, p.2, z]) (by unfold fz3; rw [hs]; rfl)
        have hs3 := hbb.size; have e4 := n4.here
        refine hK w4 _ (hbb.trans (n4.below.mono hs3)) ?_
        rw [ht]
        exact own_my ho (by simp) (by omega) ho.lt
      · rw [if_neg hi] at hsucc ⊢
        refine ⟨fun hp => absurd (dec_t hp) (by omega), fun _ => ?_⟩
        rw [wrap_small (by omega) (by omega)]
        refine hN' _ _ ⟨by omega, by split <;> omega, hbb, by rw [show (y + 1 - 1).toNat = (y - 1).toNat + 1 from by omega, hsucc]⟩ (by omega)
    · have hge := dec_f hge
      intro _
      show N _ (IntKind.i64.wrap (z + 1)) w2
      rw [wrap_small (by omega) (by omega)]
      refine hN _ _ ⟨by omega, by omega, hb2, ?_⟩ (by omega)
      have hyz : (y - 1).toNat = (z - 1).toNat := by split at y1 <;> omega
      rw [hyz] at hy
      rw [show (z + 1 - from_).toNat = (z - from_).toNat + 1 from by omega, hstep, fz3, hy]
      rfl
  · have hgt := dec_f hgt
    intro _
    have : z = l.length + 1 := by omega
    subst this
    refine nilI fun b v w2 hb2 hbel ho => ?_
    have hs := hb.size
    refine hK w2 v (hb.trans (hbel.mono hs)) ?_
    rw [hz]
    exact own_my ho (by simp) (by omega) ho.lt

end Go.Proofs.Ytlbhpbaeokgmaaa

/- The reading of spec_l01Own, and its contract. No condition. -/
namespace Go.Proofs.Ytlbhpbaeokgmaaa
open Go Go.RowKit Eng Mem
set_option linter.unusedVariables false
set_option maxRecDepth 100000
def V_spec_l01Own (list0 : Value) (w : World) (K : Value → World → Prop) : Prop :=
  (Pr Try.prog (Instr.buildSlice 24 0 #[]) w (.one .any) fun (x3_2 : Value) w_1 => (Pr Try.prog (Builtin.append_ #[24, 24] 24 #[x3_2, list0]) w_1 (.one .any) fun (x5_4 : Value) w_3 => K (x5_4 : Value) w_3))

theorem eq_spec_l01Own (list0 : Value) (w : World) (K : Value → World → Prop) :
    W Try.prog ty (fun _ _ _ _ => False) (bodyOf Try.f74) (fnPost Try.prog Try.f74.results.toList (.one .any) K) (frame0 [list0] 6) w = V_spec_l01Own list0 w K := by
  kernel_rfl

theorem body_spec_l01Own : Try.f74.body = some (bodyOf Try.f74) := by kernel_rfl
theorem name_spec_l01Own : (Try.f74.name == "runtime.NumGoroutine") = false := by kernel_rfl

theorem walk_spec_l01Own (list0 : Value) {w : World} {K : Value → World → Prop} (h : V_spec_l01Own list0 w K) : Fc Try.prog 74 #[list0] w (.one .any) K :=
  fn_ok follows (sound_none _) Try.func74 name_spec_l01Own body_spec_l01Own Try.ntmps74 [list0] (Eq.mpr (eq_spec_l01Own list0 w K) h)

-- uses S2Sl
theorem c_spec_l01Own {a : Value} {l : List Int} {w : World} {K : Value → World → Prop} (h : SlI w a l) (hl : l.length ≤ 1099511627776) (hK : ∀ w' v b, w.heap.size ≤ b → Below w.heap.size w w' → OwnI w' b v l → K v w') :
    Fc Try.prog F_spec_l01Own #[a] w (.one .any) K := by
  refine walk_spec_l01Own _ (nilI fun b v w1 hb hbel ho => appsI ho (h.keep hbel) (by simpa using hl) fun v' w' b' o m hb' => ?_)
  have hs := hbel.size
  rw [List.nil_append] at o
  exact hK w' v' b' (by omega) (hbel.trans (m.below (by omega) (by simp; omega))) o

end Go.Proofs.Ytlbhpbaeokgmaaa
