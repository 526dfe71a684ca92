/- Texts that the law FnExactNeighbourBound needs, joined. No condition. -/
import Derived.RangeFuncNested
import Derived.RangeFuncBound
import Derived.RangeFuncCalls
import Derived.RangeFuncBox
import Derived.RangeFuncLeaves
import Derived.Shelf.Abstract
import Derived.Shelf.RegionOpen
import Derived.WalkKit
import Derived.OwnWalkIn
import Derived.TacticsInMore
import Derived.LoopNIn
import Derived.LoopIn
import Derived.Maps.AppendAt
import Derived.Test.YtlbhpbaeokgmaaaKNeighbourBound3
set_option linter.all false
/- The library's range over a slice's values, and what collects them: turned from a worked text (slices' iterators; filter and collect). No condition. -/
namespace Go.Proofs.Ytlbhpbaeokgmaaa.It
open Go Go.RowKit Go.Shelf
set_option linter.unusedVariables false
attribute [local go_sem] Oper.semAt_some
def it_upto {α : Type} (f : Nat → α) (k : Nat) : List α := (List.range k).map f
theorem it_upto_succ {α : Type} (f : Nat → α) (k : Nat) : it_upto f (k + 1) = it_upto f k ++ [f k] := by simp [it_upto, List.range_succ]
theorem it_upto_length {α : Type} (f : Nat → α) (k : Nat) : (it_upto f k).length = k := by simp [it_upto]
theorem it_upto_all (zs : List Int) : it_upto (fun j => zs[j]?.getD 0) zs.length = zs := by
  apply List.ext_getElem
  · simp [it_upto]
  · intro i h1 h2
    simp [it_upto, h2]

set_option maxRecDepth 100000 in
set_option maxHeartbeats 2000000 in
theorem it_values1_in (F : Fence) (n : Nat) (h85 : F.fn 85) (hro : F.round = none) (hn : 1 ≤ n) (l Bs n₀ b off len cap : Nat) (zs : List Int) (hreach : len * 8 ≤ 140737488351232) (hb : b < n₀) (J Jx : List Int → World → Prop)
    (hY : ∀ pre x W, J pre W → pre.length < len → YieldAt F (n - 1) Try.prog l #[.int .i64 x] W fun e W' =>
      (e = .returned (.bool true) ∧ J (pre ++ [x]) W' ∧ Below n₀ W W') ∨ (e = .returned (.bool false) ∧ Jx (pre ++ [x]) W'))
    (W : World) (hBs : W.cell? ⟨Bs, 0, none⟩ = some (.slice (some ⟨b, off, none⟩) len cap)) (hc : ∀ j, j < len → W.cell? ⟨b, off + j, none⟩ = some (.int .i64 (zs[j]?.getD 0))) (h0 : J [] W) :
    CallsIn F n Try.prog 85 #[.func (.yield l) #[] #[], .pointer (some ⟨Bs, 0, none⟩)] W fun e W' => (∃ v, e = .returned v) ∧
      ((∃ ys, ys = it_upto (fun j => zs[j]?.getD 0) len ∧ J ys W') ∨ (∃ pre, (∃ k, k ≤ len ∧ pre = it_upto (fun j => zs[j]?.getD 0) k) ∧ Jx pre W')) := by
  refine callsIn_of_wp Try.func85 rfl h85 ?_ hro
  simp only [Try.ntmps85, List.size_toArray, List.length_cons, List.length_nil, Nat.reduceAdd, Nat.reduceSub, Array.replicate_succ, Array.replicate_zero, List.push_toArray, List.append_toArray, List.nil_append, List.cons_append]
  gi_wp2
  gi_loopw [7] (fun i wr => ∃ k : Nat, k ≤ len ∧ i = .int .i64 k ∧ J (it_upto (fun j => zs[j]?.getD 0) k) wr ∧ Below n₀ W wr)
    (fun i _ => len - (intOf i).toNat)
  case atStart => exact ⟨0, Nat.zero_le _, rfl, h0, Below.refl _ _⟩
  case round =>
    obtain ⟨k, hk, rfl, hJs, hnx⟩ := hrel
    have hcx : k < len → wr.cell? ⟨b, off + k, none⟩ = some (.int .i64 (zs[k]?.getD 0)) := fun h => (hnx.cell (p := ⟨b, off + k, none⟩) hb).trans (hc k h)
    by_cases hlt : k < len
    · obtain ⟨fn, tmps, assign, body, hy, hR⟩ := hY _ (zs[k]?.getD 0) wr hJs (by rw [it_upto_length]; exact hlt)
      have hcx' := hcx hlt
      gi_wp2
      refine hR.mono ?_
      rintro e W3 (⟨rfl, hJ3, hk3⟩ | ⟨rfl, hJx3⟩)
      ·
        gi_wp2
        go_roundw
        case rel => exact ⟨k + 1, by omega, by simp, by rw [it_upto_succ]; exact hJ3, hnx.trans hk3⟩
        case measure => simp [intOf]; omega
      · gi_wp2
        refine bodyPost_ret (results_none rfl _ _ _) rfl ?_
        exact ⟨⟨_, rfl⟩, .inr ⟨_, ⟨k + 1, by omega, (it_upto_succ _ _).symm⟩, hJx3⟩⟩
    · obtain rfl : k = len := by omega
      gi_wp2
      go_end0
      exact ⟨⟨_, rfl⟩, .inl ⟨_, rfl, hJs⟩⟩

theorem it_upto_take (zs : List Int) {k : Nat} (hk : k ≤ zs.length) : it_upto (fun j => zs[j]?.getD 0) k = zs.take k := by
  apply List.ext_getElem
  · simp [it_upto, hk]
  · intro i h1 h2
    have : i < zs.length := by simp [it_upto] at h1; omega
    simp [it_upto, this]

def ItInts (n₀ : Nat) (W : World) (sv : Value) (zs : List Int) : Prop :=
  (sv = .slice none 0 0 ∧ zs = []) ∨ ∃ b off cap, sv = .slice (some ⟨b, off, none⟩) zs.length cap ∧ b < n₀ ∧ ∀ j, j < zs.length → W.cell? ⟨b, off + j, none⟩ = some (.int .i64 (zs[j]?.getD 0))
theorem ItInts.below {n₀ : Nat} {A B : World} (h : Below n₀ A B) {sv : Value} {zs : List Int} : ItInts n₀ A sv zs → ItInts n₀ B sv zs
  | .inl e => .inl e
  | .inr ⟨b, off, cap, e, hb, hc⟩ => .inr ⟨b, off, cap, e, hb, fun j hj => (h.cell (p := ⟨b, off + j, none⟩) hb).trans (hc j hj)⟩

set_option maxRecDepth 100000 in
set_option maxHeartbeats 1000000 in
theorem it_values1_nil_in (F : Fence) (n : Nat) (h85 : F.fn 85) (hro : F.round = none) (l Bs : Nat) (J : List Int → World → Prop) (W : World) (hBs : W.cell? ⟨Bs, 0, none⟩ = some (.slice none 0 0)) (h0 : J [] W) :
    CallsIn F n Try.prog 85 #[.func (.yield l) #[] #[], .pointer (some ⟨Bs, 0, none⟩)] W fun e W' => (∃ v, e = .returned v) ∧ J [] W' := by
  refine callsIn_of_wp Try.func85 rfl h85 ?_ hro
  simp only [Try.ntmps85, List.size_toArray, List.length_cons, List.length_nil, Nat.reduceAdd, Nat.reduceSub, Array.replicate_succ, Array.replicate_zero, List.push_toArray, List.append_toArray, List.nil_append, List.cons_append]
  gi_wp2
  gi_loopw [7] (fun i wr => i = .int .i64 0 ∧ J [] wr) (fun _ _ => 0)
  case atStart => exact ⟨rfl, h0⟩
  case round =>
    obtain ⟨rfl, hJs⟩ := hrel
    gi_wp2
    go_end0
    exact ⟨⟨_, rfl⟩, hJs⟩

set_option maxHeartbeats 1000000 in
theorem it_values_in (F : Fence) (n : Nat) (h67 : F.fn 67) (hro : F.round = none) (a : Option Addr) (len cap : Nat) (w : World) :
    CallsIn F n Try.prog 67 #[.slice a len cap] w fun e w' => e = .returned (.func (.func 85) #[] #[.pointer (some ⟨w.heap.size, 0, none⟩)]) ∧ w' = w.alloc (.cells #[.slice a len cap] 24) := by
  refine callsIn_of_wp Try.func67 rfl h67 ?_ hro
  simp only [Try.ntmps67, List.size_toArray, List.length_cons, List.length_nil, Nat.reduceAdd, Nat.reduceSub, Array.replicate_succ, Array.replicate_zero, List.push_toArray, List.append_toArray, List.nil_append, List.cons_append]
  gi_wp2
  go_ret
  exact ⟨rfl, rfl⟩

theorem it_values_stops (F : Fence) (n : Nat) (h85 : F.fn 85) (hro : F.round = none) (hn : 1 ≤ n) (Bs n₀ : Nat) (sv : Value) (zs : List Int) (hreach : zs.length * 8 ≤ 140737488351232) (w : World) (hBs : Bs < w.heap.size) (hn₀ : n₀ ≤ w.heap.size)
    (hc : w.cell? ⟨Bs, 0, none⟩ = some sv) (hI : ItInts n₀ w sv zs) :
    SeqStopsK F n Try.prog 85 #[.pointer (some ⟨Bs, 0, none⟩)] (fun x : Int => #[Value.int .i64 x]) (Below n₀) (fun ys => ys = zs) (fun pre => pre <+: zs) zs.length w := fun l J Jx W hW _ _ hY h0 => by
  have hc' := (hW.cell (p := ⟨Bs, 0, none⟩) hBs).trans hc
  rcases hI.below (hW.mono hn₀) with ⟨rfl, rfl⟩ | ⟨b, off, cap, rfl, hb, hcs⟩
  · exact (it_values1_nil_in F n h85 hro l Bs J W hc' h0).mono fun e W' ⟨he, hj⟩ => ⟨he, .inl ⟨_, rfl, hj⟩⟩
  · refine (it_values1_in F n h85 hro hn l Bs n₀ b off zs.length cap zs hreach hb J Jx hY W hc' hcs h0).mono ?_
    rintro e W' ⟨he, ⟨ys, rfl, hj⟩ | ⟨pre, ⟨k, hk, rfl⟩, hj⟩⟩
    · exact ⟨he, .inl ⟨_, it_upto_all zs, hj⟩⟩
    · exact ⟨he, .inr ⟨_, by rw [it_upto_take zs hk]; exact List.take_prefix _ _, hj⟩⟩


theorem info2 : (Try.prog.info? 2).map (fun i => (i.zero, i.size, i.bytes)) = some (some (.int .i64 0), 1, 8) := by kernel_rfl
set_option maxRecDepth 100000 in
set_option maxHeartbeats 2000000 in
theorem append_in (F : Fence) (n : Nat) (h89 : F.fn 89) (h85 : F.fn 85) (hro : F.round = none) (hn : 3 ≤ n) (Bs : Nat) (sv : Value) (xs : List Int) (hlen : xs.length ≤ maxLen) (hbytes : xs.length * 8 ≤ 140737488351232) (w : World)
    (hBs : Bs < w.heap.size) (hcS : w.cell? ⟨Bs, 0, none⟩ = some sv) (hL : ItInts w.heap.size w sv xs) :
    CallsIn F n Try.prog 89 #[.slice none 0 0, .func (.func 85) #[] #[.pointer (some ⟨Bs, 0, none⟩)]] w fun e W' => ∃ v, e = .returned v ∧ W'.ownsRow w.heap.size 2 1 v xs.length (xs.map (Value.int .i64)) ∧ (v = .slice none 0 0 ↔ xs = []) ∧ Below w.heap.size w W' := by
  have h1 : 1 ≤ n := by omega
  obtain ⟨i0, hi, hz0, hz1, hz2⟩ := info_parts info2
  refine callsIn_of_wp_marks Try.func89 rfl h89 ?_ hro
  simp only [Try.ntmps89, List.size_toArray, List.length_cons, List.length_nil, Nat.reduceAdd, Nat.reduceSub, Array.replicate_succ, Array.replicate_zero, List.push_toArray, List.append_toArray, List.nil_append, List.cons_append]
  gi_wp2
  have bO := Boxed.new w 24 (.slice none 0 0)
  have hB0 : Below w.heap.size w (w.alloc (.cells #[.slice none 0 0] 24)) := (Below.refl _ w).alloc (Nat.le_refl _) _
  refine wpIn_rangeFunc_ownG hro h1 (gf := 85) (lb := #[.pointer (some ⟨Bs, 0, none⟩)]) rfl h85 (enters_of Try.func85 (by kernel_rfl) rfl)
    (it_values_stops F (n - 1) h85 hro (by omega) Bs w.heap.size sv xs hbytes _ (by simp; omega) (by simp) ((hB0.cell (p := ⟨Bs, 0, none⟩) hBs).trans hcS) (hL.below hB0)) belowK_t (belowK_b (by simp)) (Below.refl _ _) (fun _ => rfl)
    (fun pre W => (∃ v, Boxed W w.heap.size 24 v ∧ W.ownsRow w.heap.size 2 1 v pre.length (pre.map (Value.int .i64)) ∧ (v = .slice none 0 0 ↔ pre = [])) ∧ Below w.heap.size w W)
    (fun _ _ _ => False)
    (OwnFrom.and (Own.from (holdsRow_own w.heap.size w.heap.size 24 2 1 (fun pre => pre.length) (fun pre => pre.map (Value.int .i64)) (fun pre v => v = .slice none 0 0 ↔ pre = [])) _) (ownFrom_below (Nat.le_refl _) (by simp)))
    (fun _ _ _ _ _ hs _ _ => hs)
    ⟨⟨_, bO, World.ownsRow_nil _ _ _ _, by simp⟩, hB0⟩
    (fun x => { tmps := #[.slice none 0 0, .func (.func 85) #[] #[.pointer (some ⟨Bs, 0, none⟩)], .pointer (some ⟨w.heap.size, 0, none⟩), undef, .slice none 0 0, .int .i64 x, .func (.func 85) #[] #[.pointer (some ⟨Bs, 0, none⟩)], .int .i64 x, undef, undef, undef, undef, undef], defers := [] }) ?assign ?body ?done ?stop
  case assign =>
    intro l x W K hK
    gi_wp2
    exact hK
  case body =>
    rintro l pre x W ⟨⟨v, hv, hrow, hnil⟩, hB⟩ hlt
    have hc := hv.cell
    gi_wp2_with (gi_at_builtin; refine wpListIn_append_own _ rfl _ _ 24 rfl w.heap.size 2 i0 (.int .i64 0) 1 8 Try.underlying24 hi hz0 hz1 hz2 rfl (by decide) _ _ _ rfl (hrow.alloc _) ⟨W.heap.size, 0, none⟩ 1 1 [.int .i64 x] rfl rfl (cell_one_new _ _ _) (by simp [Value.oneCell']) (by omega) (by omega) (by have := hB.size; simp; omega) ?_; intro v' w1 hown' hgrow _; obtain ⟨g', cap', rfl⟩ := ownsRow_succ hown'; obtain ⟨hv1, hv2, hr2, hk2, hb2⟩ := hv.appended (by decide) hrow hB.size (Nat.le_refl _) hown' hgrow; have hc1 := hv1.cell; have hf1 := hv1.frozen)
    exact ⟨hk2.from _, hb2, ⟨_, hv2, by simpa using hr2, by simp⟩, hB.trans hb2⟩
  case done =>
    rintro D ys W hD rfl ⟨⟨v, hv, hrow, hnil⟩, hB⟩ hK
    have hc := hv.cell
    gi_wp2
    refine ⟨by simp, .inl ⟨_, _, rfl, run_takeDeferred hK, ?_⟩⟩
    exact ⟨_, results_tmp rfl _ _ _, v, rfl, ownsRow_putObj hrow _ hK rfl, hnil, hB.trans (belowK_b (w := w) (Nat.le_refl _) W D _ _ (by simp at hD; omega) hK rfl rfl)⟩
  case stop =>
    rintro D c pre W _ _ h _
    exact h.elim
end Go.Proofs.Ytlbhpbaeokgmaaa.It

/- The library's collecting of a slice's values, as a contract; sorted lists. No condition. -/
namespace Go.Proofs.Ytlbhpbaeokgmaaa
open Go Go.RowKit Eng Mem
set_option linter.unusedVariables false
set_option maxRecDepth 100000
theorem fcRun {f : FuncId} {args : Array Value} {w : World} {t : RT} {K : t.T → World → Prop} {R : Ending → World → Prop} {fn : Func} {c : Code} (hf : Try.prog.funcs[f]? = some fn) (hname : (fn.name == "runtime.NumGoroutine") = false) (hb : fn.body = some c)
    (h : Calls Try.prog f args w R) (hR : ∀ e w', R e w' → ∃ x, e = .returned (t.val x) ∧ K x w') : Fc Try.prog f args w t K := by
  refine ⟨fun args w => ?_, h.mono hR⟩
  have h1 : fn.name ≠ "runtime.NumGoroutine" := by simpa using hname
  simp [callFunc, hf, h1, hb]
theorem body89 : Try.f89.body = some (bodyOf Try.f89) := by kernel_rfl
theorem name89 : (Try.f89.name == "runtime.NumGoroutine") = false := by kernel_rfl
theorem cell_of {w : World} {b : Nat} {v : Value} (h : Cell w (ptr b 0) v) : w.cell? ⟨b, 0, none⟩ = some v := by
  obtain ⟨b', off, cs, e, fz, hp, ha, hr⟩ := h
  injection hp with hp; injection hp with hp; injection hp with h1 h2 _
  subst h1; subst h2
  have := hr 0 (by simp)
  simp only [Nat.add_zero, List.getElem?_cons_zero] at this
  simp [World.cell?, ha, this]
theorem row_cell {w : World} {b off : Nat} {vs : List Value} (h : Row w (ptr b off) vs) {j : Nat} {v : Value} (hv : vs[j]? = some v) : w.cell? ⟨b, off + j, none⟩ = some v := by
  obtain ⟨b', off', cs, e, fz, hp, ha, hr⟩ := h
  injection hp with hp; injection hp with hp; injection hp with h1 h2 _
  subst h1; subst h2
  have := hr j (List.getElem?_eq_some_iff.1 hv).1
  simp [World.cell?, ha, this, hv]
theorem row_lt {w : World} {b off : Nat} {vs : List Value} (h : Row w (ptr b off) vs) : b < w.heap.size := by
  obtain ⟨b', off', cs, e, fz, hp, ha, hr⟩ := h
  injection hp with hp; injection hp with hp; injection hp with h1 h2 _
  subst h1
  exact at_lt ha
/-- The values of a slice, behind nothing. -/
theorem ap_seq {sv : Value} {Bs : Nat} {l : List Int} {w : World} {K : Value → World → Prop} (hB : Cell w (ptr Bs 0) sv) (h : SlI w sv l) (h0 : l ≠ []) (hl : l.length ≤ 1099511627776)
    (hK : ∀ v b w', w.heap.size ≤ b → Below w.heap.size w w' → OwnI w' b v l → K v w') :
    Fc Try.prog F_slices_AppendSeq_int64_int64 #[.slice none 0 0, .func (.func 85) #[] #[ptr Bs 0]] w (.one .any) K := by
  obtain ⟨a, n, c, rfl, hnc, hn, hr⟩ := id h.sl
  have hr := hr (by simpa using h0)
  obtain ⟨b2, off2, _, _, _, hp, _, _⟩ := id hr
  injection hp with hp
  subst hp
  have hn : n = l.length := by simp at hn; omega
  subst hn
  refine fcRun Try.func89 name89 body89 (callsIn_wide.1 (It.append_in Fence.wide 3 trivial trivial rfl (by omega) Bs _ l (by unfold maxLen; omega) (by omega) w (row_lt hB) (cell_of hB) (.inr ⟨b2, off2, c, rfl, row_lt hr, fun j hj => ?_⟩))) ?_
  · have := row_cell hr (iv_get l hj)
    rw [this, List.getD_eq_getElem?_getD]
  · rintro e w' ⟨v, rfl, hrow, hnil, hb⟩
    refine ⟨v, rfl, ?_⟩
    obtain ⟨hx, ⟨_, hz⟩ | ⟨g, cap, cur, hv, hg, hat, hc, hm, hs, ht⟩⟩ := hrow
    · exact absurd (List.eq_nil_of_length_eq_zero hz) h0
    · exact hK v g w' hg hb ⟨cap, cur.toList, hv, by unfold Blk; rw [Array.toArray_toList]; exact hat, hc, hm, by simpa using hs, ht, hx⟩
theorem srt_iff {l : List Int} : Srt l l.length ↔ l.Pairwise (· ≤ ·) := by
  rw [List.pairwise_iff_getElem]
  constructor
  · intro h i j hi hj hij
    have := h i j hij hj
    rwa [List.getD_eq_getElem?_getD, List.getD_eq_getElem?_getD, List.getElem?_eq_getElem hi, List.getElem?_eq_getElem hj] at this
  · intro h p q hpq hq
    have := h p q (by omega) hq hpq
    rwa [List.getD_eq_getElem?_getD, List.getD_eq_getElem?_getD, List.getElem?_eq_getElem (show p < l.length by omega), List.getElem?_eq_getElem hq]
theorem srt_big {l : List Int} (h : Srt l l.length) : Srt (bigL l) (bigL l).length := srt_iff.2 ((srt_iff.1 h).filter _)
/-- A sorted list without a one in front has none. -/
theorem srt_one {l : List Int} (h : Srt l l.length) (hb : ∀ x ∈ l, 1 ≤ x ∧ x ≤ 8) (h0 : l ≠ []) (h1 : l.getD 0 0 ≠ 1) : 1 ∉ l := by
  intro hm
  obtain ⟨j, hj, e⟩ := List.getElem_of_mem hm
  have hp := List.length_pos_iff.2 h0
  have hj' : l.getD j 0 = 1 := by rw [List.getD_eq_getElem?_getD, List.getElem?_eq_getElem hj]; exact e
  have h00 : l.getD 0 0 = l[0] := by rw [List.getD_eq_getElem?_getD, List.getElem?_eq_getElem hp]; rfl
  have := (hb _ (List.getElem_mem hp)).1
  by_cases hz : j = 0
  · subst hz; exact h1 hj'
  · have := h 0 j (by omega) hj
    omega
theorem del_big {l : List Int} (hb : ∀ x ∈ l, 1 ≤ x ∧ x ≤ 8) (h1 : 1 ∉ l) : l.filter (fun x => !(x == 2)) = bigL l := by
  unfold bigL
  refine List.filter_congr fun x hx => ?_
  have := hb x hx
  have h : x ≠ 1 := fun e => h1 (e ▸ hx)
  rw [Bool.eq_iff_iff]
  simp
  omega
end Go.Proofs.Ytlbhpbaeokgmaaa

/- The reading of impl_neighbourBound, and its contract. No condition. -/
namespace Go.Proofs.Ytlbhpbaeokgmaaa
open Go Go.RowKit Eng Mem
set_option linter.unusedVariables false
set_option maxRecDepth 100000
def B_impl_neighbourBound_10 (sizes0 : Value) (known1 : Value) (key5 : Value) (x30 : Int) (out8 : Int) (even10 : Bool) (x31 : Int) (N : (Value × Value × Value × Int) → (Int × Bool × Int) → World → Prop) (D1 : (Value × Value × Value × Int × Bool × Unit) → World → Prop) (w : World) : Prop :=
  (((decide (x31 < x30)) = true → (Fc Try.prog 43 #[sizes0] w (.one .any) fun (x35_41 : Value) w_40 => (QAll Try.prog (Instr.indexAt 24 x35_41 (.int .i64 x31)) .any fun (x38_42 : Value) => (QSub Try.prog (Instr.loadAt 2 x38_42) w_40 (.int .i64) fun (x39_43 : Int) => (QAll Try.prog (Instr.indexAt 24 x35_41 (.int .i64 x31)) .any fun (x41_44 : Value) => (PrU Try.prog (Instr.storeAt 2 x41_44 (.int .i64 (IntKind.i64.wrap (x39_43 - (1 : Int))))) w_40 fun w_45 => (Fc Try.prog 83 #[x35_41] w_45 .unit fun (x43_48 : Unit) w_47 => (Fc Try.prog 65 #[x35_41, known1] w_47 (.one (.int .i64)) fun (x46_50 : Int) w_49 => ((even10 = true → ((2 : Int) ≠ 0 ∧ N ((sizes0 : Value), (known1 : Value), (key5 : Value), x30) ((IntKind.i64.wrap (out8 + x46_50)), ((Int.tmod x46_50 (2 : Int)) == (0 : Int)), (IntKind.i64.wrap (x31 + (1 : Int)))) w_49)) ∧ (even10 = false → N ((sizes0 : Value), (known1 : Value), (key5 : Value), x30) ((IntKind.i64.wrap (out8 + x46_50)), false, (IntKind.i64.wrap (x31 + (1 : Int)))) w_49)))))))))) ∧ ((decide (x31 < x30)) = false → D1 ((sizes0 : Value), (known1 : Value), (key5 : Value), out8, even10, ()) w))

abbrev L_impl_neighbourBound_10_e1 : List Slot := [.k .any, .k .any, .junk, .junk, .junk, .k .any, .junk, .junk, .k (.int .i64), .junk, .k .bool, .junk, .junk, .junk, .junk, .junk, .junk, .junk, .junk, .junk, .junk, .junk, .junk, .junk, .junk, .junk, .junk, .junk, .junk, .junk, .junk, .junk, .junk, .junk, .junk, .junk, .junk, .junk, .junk, .junk, .junk, .junk, .junk, .junk, .junk, .junk, .junk, .junk, .junk, .junk, .junk, .junk, .junk, .junk, .junk, .junk, .junk, .junk, .junk, .junk, .junk, .junk, .junk, .junk, .junk, .junk, .junk, .junk, .junk, .junk, .junk, .junk, .junk, .junk, .junk, .junk, .junk, .junk, .junk, .junk, .junk, .junk, .junk, .junk, .junk, .junk, .junk, .junk, .junk, .junk, .junk, .junk, .junk, .junk, .junk, .junk, .junk, .junk, .junk]

abbrev L_impl_neighbourBound_10_sp : List Slot := [.k .any, .k .any, .junk, .junk, .junk, .k .any, .junk, .junk, .k (.int .i64), .junk, .k .bool, .junk, .junk, .junk, .junk, .junk, .junk, .junk, .junk, .junk, .junk, .junk, .junk, .junk, .junk, .junk, .junk, .junk, .junk, .junk, .k (.int .i64), .k (.int .i64), .junk, .junk, .junk, .junk, .junk, .junk, .junk, .junk, .junk, .junk, .junk, .junk, .junk, .junk, .junk, .junk, .junk, .junk, .junk, .junk, .junk, .junk, .junk, .junk, .junk, .junk, .junk, .junk, .junk, .junk, .junk, .junk, .junk, .junk, .junk, .junk, .junk, .junk, .junk, .junk, .junk, .junk, .junk, .junk, .junk, .junk, .junk, .junk, .junk, .junk, .junk, .junk, .junk, .junk, .junk, .junk, .junk, .junk, .junk, .junk, .junk, .junk, .junk, .junk, .junk, .junk, .junk]
abbrev L_impl_neighbourBound_10_ex : List (Nat × List Slot) := [(1, L_impl_neighbourBound_10_e1)]
abbrev L_impl_neighbourBound_10_rt : List Slot := [.junk, .junk, .junk, .junk, .junk, .junk, .junk, .junk, .junk, .junk, .junk, .junk, .junk, .junk, .junk, .junk, .junk, .junk, .junk, .junk, .junk, .junk, .junk, .junk, .junk, .junk, .junk, .junk, .junk, .junk, .junk, .junk, .junk, .junk, .junk, .junk, .junk, .junk, .junk, .junk, .junk, .junk, .junk, .junk, .junk, .junk, .junk, .junk, .junk, .junk, .junk, .junk, .junk, .junk, .junk, .junk, .junk, .junk, .junk, .junk, .junk, .junk, .junk, .junk, .junk, .junk, .junk, .junk, .junk, .junk, .junk, .junk, .junk, .junk, .junk, .junk, .junk, .junk, .junk, .junk, .junk, .junk, .junk, .junk, .junk, .junk, .junk, .junk, .junk, .junk, .junk, .junk, .junk, .junk, .junk, .junk, .junk, .junk, .junk]

def L_impl_neighbourBound_10_b (Φ : Post) (u : (Value × Value × Value × Int)) (N : (Value × Value × Value × Int) → (Int × Bool × Int) → World → Prop) (s : (Int × Bool × Int)) (w : World) : Prop :=
  B_impl_neighbourBound_10 u.1 u.2.1 u.2.2.1 u.2.2.2 s.1 s.2.1 s.2.2 N (fun v w => ∀ j : Nat → Value, Φ (.exit 1) (mkT j 0 L_impl_neighbourBound_10_e1 v) w) w

theorem L_impl_neighbourBound_10_eq (j : Nat → Value) (u : (Value × Value × Value × Int)) (s : (Int × Bool × Int)) (N : (Value × Value × Value × Int) → (Int × Bool × Int) → World → Prop) (D1 : (Value × Value × Value × Int × Bool × Unit) → World → Prop) (R : (Unit) → World → Prop) (w : World) :
    W Try.prog ty (fun _ _ _ _ => False) (loopAt Try.f65 10) (loopPost L_impl_neighbourBound_10_sp [(1, (⟨L_impl_neighbourBound_10_e1, D1⟩ : Door))] ⟨L_impl_neighbourBound_10_rt, R⟩ (fun v w => N ((fun v => (v.1, v.2.1, v.2.2.1, v.2.2.2.2.2.1)) v) ((fun v => (v.2.2.2.1, v.2.2.2.2.1, v.2.2.2.2.2.2.1)) v) w)) (mkT j 0 L_impl_neighbourBound_10_sp ((fun u s => (u.1, u.2.1, u.2.2.1, s.1, s.2.1, u.2.2.2, s.2.2, ())) u s)) w =
    B_impl_neighbourBound_10 u.1 u.2.1 u.2.2.1 u.2.2.2 s.1 s.2.1 s.2.2 N D1 w := by
  kernel_rfl

def O_impl_neighbourBound_1 : Code → Post → List SV → World → Prop :=
  orc 10 (loopAt Try.f65 10) L_impl_neighbourBound_10_sp (fun Φ fr w => LOOP (U := (Value × Value × Value × Int)) (S := (Int × Bool × Int)) ((fun v => (v.1, v.2.1, v.2.2.1, v.2.2.2.2.2.1)) (extT L_impl_neighbourBound_10_sp fr)) (L_impl_neighbourBound_10_b Φ ((fun v => (v.1, v.2.1, v.2.2.1, v.2.2.2.2.2.1)) (extT L_impl_neighbourBound_10_sp fr))) ((fun v => (v.2.2.2.1, v.2.2.2.2.1, v.2.2.2.2.2.2.1)) (extT L_impl_neighbourBound_10_sp fr)) w) (fun _ _ _ _ => False)

theorem O_impl_neighbourBound_1_ok : Sound Try.prog O_impl_neighbourBound_1 :=
  orc_ok (sound_none _) fun Φ fr w hs h => loop_ok (ty := ty) follows (sound_none _) L_impl_neighbourBound_10_sp (fun v => (v.1, v.2.1, v.2.2.1, v.2.2.2.2.2.1)) (fun v => (v.2.2.2.1, v.2.2.2.2.1, v.2.2.2.2.2.2.1)) (fun u s => (u.1, u.2.1, u.2.2.1, s.1, s.2.1, u.2.2.2, s.2.2, ())) (fun _ => rfl) L_impl_neighbourBound_10_ex L_impl_neighbourBound_10_rt (body := L_impl_neighbourBound_10_b Φ) (fun j u s w N hb => by
    have e := L_impl_neighbourBound_10_eq j u s N (doorOf Φ (.exit 1) L_impl_neighbourBound_10_e1).D (doorOf Φ .ret L_impl_neighbourBound_10_rt).D w
    exact Eq.mpr e hb) hs h

def V_impl_neighbourBound (sizes0 : Value) (known1 : Value) (w : World) (K : Int → World → Prop) : Prop :=
  (Pr Try.prog (Instr.build 93 #[]) w (.one .any) fun (x14_2 : Value) w_1 => (Pr Try.prog (Instr.alloc 93 true (.tuple #[])) w_1 (.one .any) fun (key5_4 : Value) w_3 => (PrU Try.prog (Instr.storeAt 93 key5_4 x14_2) w_3 fun w_5 => (QAll Try.prog (Instr.sliceAt 93 key5_4 none none none) .any fun (x15_7 : Value) => (Pr Try.prog (Builtin.copy_ #[24, 24] 3 #[x15_7, sizes0]) w_5 (.one (.int .i64)) fun (x17_9 : Int) w_8 => (QSub Try.prog (Instr.loadAt 93 key5_4) w_8 .any fun (x20_10 : Value) => (Pr Try.prog (Instr.lookup 80 known1 x20_10 true) w_8 (.two (.int .i64) .bool) fun (x21_12 : Int × Bool) w_11 => ((x21_12.2 = true → K x21_12.1 w_11) ∧ (x21_12.2 = false → (Fc Try.prog 43 #[sizes0] w_11 (.one .any) fun (x27_14 : Value) w_13 => (Fc Try.prog 81 #[x27_14, (.func (.func 82) #[] #[])] w_13 (.one .any) fun (x28_16 : Value) w_15 => (QAll Try.prog (Instr.indexAt 24 sizes0 (.int .i64 (0 : Int))) .any fun (x72_17 : Value) => (QSub Try.prog (Instr.loadAt 2 x72_17) w_15 (.int .i64) fun (x73_18 : Int) => (((x73_18 == (1 : Int)) = true → (QSub Try.prog (Instr.loadAt 93 key5_4) w_15 .any fun (x96_19 : Value) => (PrU Try.prog (Instr.mapUpdate 80 known1 x96_19 (.int .i64 (1 : Int))) w_15 fun w_20 => K (1 : Int) w_20))) ∧ ((x73_18 == (1 : Int)) = false → (QAll Try.prog (Builtin.len_ #[24] 3 #[x28_16]) (.int .i64) fun (x77_22 : Int) => (((x77_22 == (0 : Int)) = true → (QSub Try.prog (Instr.loadAt 93 key5_4) w_15 .any fun (x96_23 : Value) => (PrU Try.prog (Instr.mapUpdate 80 known1 x96_23 (.int .i64 (2 : Int))) w_15 fun w_24 => K (2 : Int) w_24))) ∧ ((x77_22 == (0 : Int)) = false → (QAll Try.prog (Builtin.len_ #[24] 3 #[x28_16]) (.int .i64) fun (x81_26 : Int) => (((x81_26 == (1 : Int)) = true → (QAll Try.prog (Instr.indexAt 24 x28_16 (.int .i64 (0 : Int))) .any fun (x84_27 : Value) => (QSub Try.prog (Instr.loadAt 2 x84_27) w_15 (.int .i64) fun (x85_28 : Int) => (QSub Try.prog (Instr.loadAt 93 key5_4) w_15 .any fun (x96_29 : Value) => (PrU Try.prog (Instr.mapUpdate 80 known1 x96_29 (.int .i64 x85_28)) w_15 fun w_30 => K x85_28 w_30))))) ∧ ((x81_26 == (1 : Int)) = false → (QAll Try.prog (Builtin.len_ #[24] 3 #[x28_16]) (.int .i64) fun (x88_32 : Int) => (QAll Try.prog (Builtin.len_ #[24] 3 #[sizes0]) (.int .i64) fun (x90_33 : Int) => (((decide (x88_32 < x90_33)) = true → (Fc Try.prog 65 #[x28_16, known1] w_15 (.one (.int .i64)) fun (x94_35 : Int) w_34 => (QSub Try.prog (Instr.loadAt 93 key5_4) w_34 .any fun (x96_36 : Value) => (PrU Try.prog (Instr.mapUpdate 80 known1 x96_36 (.int .i64 x94_35)) w_34 fun w_37 => K x94_35 w_37)))) ∧ ((decide (x88_32 < x90_33)) = false → (QAll Try.prog (Builtin.len_ #[24] 3 #[sizes0]) (.int .i64) fun (x30_39 : Int) => (At (loopAt Try.f65 10) (loopAt Try.f65 10) (LOOP (U := (Value × Value × Value × Int)) (S := (Int × Bool × Int)) ((sizes0 : Value), (known1 : Value), (key5_4 : Value), x30_39) (fun N_66 s_67 w_68 => B_impl_neighbourBound_10 (sizes0 : Value) (known1 : Value) (key5_4 : Value) x30_39 s_67.1 s_67.2.1 s_67.2.2 N_66 (fun (v_51 : (Value × Value × Value × Int × Bool × Unit)) w_52 => ∀ _j_53 : Nat → Value, (Fc Try.prog 52 #[v_51.1] w_52 (.one (.int .i64)) fun (x59_55 : Int) w_54 => (QAll Try.prog (Builtin.len_ #[24] 3 #[v_51.1]) (.int .i64) fun (x63_56 : Int) => (((x63_56 == (2 : Int)) = true → ((v_51.2.2.2.2.1 = true → (QSub Try.prog (Instr.loadAt 93 v_51.2.2.1) w_54 .any fun (x96_57 : Value) => (PrU Try.prog (Instr.mapUpdate 80 v_51.2.1 x96_57 (.int .i64 (IntKind.i64.wrap ((IntKind.i64.wrap (v_51.2.2.2.1 + (IntKind.i64.wrap ((2 : Int) - x59_55)))) - (1 : Int))))) w_54 fun w_58 => K (IntKind.i64.wrap ((IntKind.i64.wrap (v_51.2.2.2.1 + (IntKind.i64.wrap ((2 : Int) - x59_55)))) - (1 : Int))) w_58))) ∧ (v_51.2.2.2.2.1 = false → (QSub Try.prog (Instr.loadAt 93 v_51.2.2.1) w_54 .any fun (x96_60 : Value) => (PrU Try.prog (Instr.mapUpdate 80 v_51.2.1 x96_60 (.int .i64 (IntKind.i64.wrap (v_51.2.2.2.1 + (IntKind.i64.wrap ((2 : Int) - x59_55)))))) w_54 fun w_61 => K (IntKind.i64.wrap (v_51.2.2.2.1 + (IntKind.i64.wrap ((2 : Int) - x59_55)))) w_61))))) ∧ ((x63_56 == (2 : Int)) = false → (QSub Try.prog (Instr.loadAt 93 v_51.2.2.1) w_54 .any fun (x96_63 : Value) => (PrU Try.prog (Instr.mapUpdate 80 v_51.2.1 x96_63 (.int .i64 (IntKind.i64.wrap (v_51.2.2.2.1 + (IntKind.i64.wrap ((2 : Int) - x59_55)))))) w_54 fun w_64 => K (IntKind.i64.wrap (v_51.2.2.2.1 + (IntKind.i64.wrap ((2 : Int) - x59_55)))) w_64))))))) w_68) ((0 : Int), true, (0 : Int)) w_15))))))))))))))))))))))))))))

theorem eq_impl_neighbourBound (sizes0 : Value) (known1 : Value) (w : World) (K : Int → World → Prop) :
    W Try.prog ty O_impl_neighbourBound_1 (bodyOf Try.f65) (fnPost Try.prog Try.f65.results.toList (.one (.int .i64)) K) (frame0 [sizes0, known1] 99) w = V_impl_neighbourBound sizes0 known1 w K := by
  kernel_rfl

theorem body_impl_neighbourBound : Try.f65.body = some (bodyOf Try.f65) := by kernel_rfl
theorem name_impl_neighbourBound : (Try.f65.name == "runtime.NumGoroutine") = false := by kernel_rfl

theorem walk_impl_neighbourBound (sizes0 : Value) (known1 : Value) {w : World} {K : Int → World → Prop} (h : V_impl_neighbourBound sizes0 known1 w K) : Fc Try.prog 65 #[sizes0, known1] w (.one (.int .i64)) K :=
  fn_ok follows O_impl_neighbourBound_1_ok Try.func65 name_impl_neighbourBound body_impl_neighbourBound Try.ntmps65 [sizes0, known1] (Eq.mpr (eq_impl_neighbourBound sizes0 known1 w K) h)

-- uses S9NbC
theorem nbi_go : ∀ (n : Nat) {v : Value} {b bm : Nat} {l : List Int} {w : World} {K : Int → World → Prop}, degL2 l + l.length ≤ n → OwnI w b v l → MapN w bm → b ≠ bm → l ≠ [] → l.length ≤ 4 → (∀ x ∈ l, 1 ≤ x ∧ x ≤ 8) → Srt l l.length →
    (∀ w', Mod [bm] w w' → MapN w' bm → K (nb l) w') → Fc Try.prog F_impl_neighbourBound #[v, .map (some bm)] w (.one (.int .i64)) K := by
  intro n
  induction n using Nat.strongRecOn with
  | _ n ih =>
  intro v b bm l w K hn h hm hbm hne hl hb hs hK
  have hlp := List.length_pos_iff.2 hne
  have blt := h.lt; have mlt := hm.lt
  refine walk_impl_neighbourBound _ _ (keyVar (own_slI h (by omega)) hne hl fun bk w1 hk1 hk2 q1 r1 => keyAt r1 hl ?_)
  have h1 := h.keep q1; have hm1 := hm.keep q1; have z1 := q1.size
  refine map_get hm1 (pad4_len hl) (pad4_dig hb) ⟨fun _ => ?_, fun e => (by cases e)⟩ ⟨fun e => (by cases e), fun _ => ?_⟩
  · rw [pad4_nz hb]; exact hK w1 (mod_of_below q1 _) hm1
  refine c_slices_Clone_int64_int64 (own_slI h1 (by omega)) (by omega) fun v2 w2 q2 my2 => ?_
  obtain ⟨_, ⟨_, e⟩ | ⟨b2, hb2, hb2', o2⟩⟩ := my2
  · exact absurd e hne
  have z2 := q2.size
  refine c_slices_DeleteFunc_int64_int64 (fun x => x == 2) o2 (by omega) (fun x w' K' hk => cv rfl (c_impl_neighbourBound_1 hk)) fun v3 w3 m3 o3 => ?_
  have q13 : Below w1.heap.size w1 w3 := q2.trans (m3.below z2 (by simpa using hb2))
  have z3 := q13.size
  have q3 : Below w.heap.size w w3 := q1.trans (q13.mono z1)
  have h3 := h1.keep q13; have hm3 := hm1.keep q13; have r3 := r1.keep q13
  have kne : bk ≠ bm := by omega
  have hnz := pad4_nz hb
  -- the end of each way: the value is kept in the map
  have fin : ∀ {w' : World} {x : Int}, x = nb l → Mod [bm] w3 w' → MapN w' bm → QSub Try.prog (Instr.loadAt tK4 (ptr bk 0)) w' .any fun y => PrU Try.prog (Instr.mapUpdate tMp (.map (some bm)) y (.int .i64 x)) w' fun w'' => K x w'' := fun {w' x} e mm hm' => by
    refine keyAt (r3.mod mm (by simpa using kne)) hl (map_put hm' (pad4_len hl) (pad4_dig hb) (by rw [hnz]; exact e) fun w'' m2 _ hm2 => ?_)
    rw [e]
    exact hK w'' (((mod_of_below q3 [bm]).trans mm).trans m2) hm2
  have h0g : l.getD (0 : Int).toNat 0 = l.getD 0 0 := rfl
  have h00 : l.getD 0 0 = l[0] := by rw [List.getD_eq_getElem?_getD, List.getElem?_eq_getElem hlp]; rfl
  refine atI (own_slI h3 (by omega)) (by omega) (by omega) ?_
  rw [h0g]
  refine ⟨fun e => fin ?_ (Mod.refl _ _) hm3, fun e => ?_⟩
  · have e := eq_t e
    exact (nb_one (by rw [← e, h00]; exact List.getElem_mem hlp)).symm
  have e := eq_f e
  have h1m := srt_one hs hb hne e
  rw [del_big hb h1m] at o3
  have hbl : (bigL l).length ≤ l.length := List.length_filter_le _ _
  have sl3 := own_slI o3 (by omega)
  refine lenI sl3 ⟨fun e0 => fin ?_ (Mod.refl _ _) hm3, fun e0 => ?_⟩
  · have e0 := eq_t e0
    exact (nb_none h1m (by omega)).symm
  have e0 := eq_f e0
  refine lenI sl3 ⟨fun e1 => atI sl3 (by omega) (by omega) (fin ?_ (Mod.refl _ _) hm3), fun e1 => ?_⟩
  · have e1 := eq_t e1
    rw [nb_single h1m (by omega)]
    match hh : bigL l, e1 with
    | [x], _ => rfl
  have e1 := eq_f e1
  have hbb : ∀ x ∈ bigL l, 1 ≤ x ∧ x ≤ 8 := fun x hx => hb x (List.mem_filter.1 hx).1
  refine lenI sl3 (lenI (own_slI h3 (by omega)) ⟨fun lt => ?_, fun ge => ?_⟩)
  · have lt : ((bigL l).length : Int) < l.length := dec_t lt
    refine ih (degL2 (bigL l) + (bigL l).length) (by rw [big_deg]; omega) (Nat.le_refl _) o3 hm3 (by omega) (by intro e; rw [e] at e0; simp at e0) (by omega) hbb (srt_big hs) fun w4 m4 hm4 => ?_
    exact fin (nb_big h1m).symm m4 hm4
  have ge : ¬ ((bigL l).length : Int) < l.length := dec_f ge
  have hbe : bigL l = l := List.Sublist.eq_of_length List.filter_sublist (by show (bigL l).length = _; omega)
  have hall : ∀ x ∈ l, 2 < x := by have := big_all l; rwa [hbe] at this
  have h2l : 2 ≤ l.length := by rw [← hbe]; omega
  have hds := decs_all hall
  have hdl : ∀ d ∈ decs l, 1 ≤ nb d ∧ nb d ≤ 2251799813685248 := fun d hd => ⟨nb_ge d, nb_four (by rw [(decs_deg hd).2]; omega) fun x hx => (decs_bd (lo := 1) (hi := 8) (by omega) hb hd x hx).2⟩
  have hdn : (decs l).length = l.length := by rw [decs_len, hbe]
  refine lenI (own_slI h3 (by omega)) ?_
  refine lp (fun s w' => ∃ i : Nat, s.2.2 = (i : Int) ∧ i ≤ l.length ∧ s.1 = (((decs l).take i).map nb).sum ∧ s.2.1 = decide ((((decs l).take i).map fun d => nb d % 2).sum = 0) ∧ Mod [bm] w3 w' ∧ MapN w' bm) (fun s _ => ((l.length : Int) - s.2.2).toNat)
    ⟨0, rfl, Nat.zero_le _, by simp, by simp, Mod.refl _ _, hm3⟩ ?_
  rintro ⟨out, even, j_⟩ w4 N ⟨j, ej, hj, es, ee, m4, hm4⟩ hN
  simp only at ej es ee
  subst ej
  unfold B_impl_neighbourBound_10
  dsimp only
  have h4 : OwnI w4 b v l := h3.mod m4 (by simpa using hbm)
  have z4 := m4.size
  have hsumb : (((decs l).take j).map nb).sum ≤ ((decs l).take j).length * 2251799813685248 := sum_le' fun d hd => (hdl d (List.mem_of_mem_take hd)).2
  have hsum0 : ((decs l).take j).length * 1 ≤ (((decs l).take j).map nb).sum := le_sum' fun d hd => (hdl d (List.mem_of_mem_take hd)).1
  have hmod0 : ((decs l).take j).length * 0 ≤ (((decs l).take j).map fun d => nb d % 2).sum := le_sum' fun d hd => Int.emod_nonneg _ (by omega)
  have htl : ((decs l).take j).length ≤ 4 := by rw [List.length_take, hdn]; omega
  refine ⟨fun hlt => ?_, fun hge _ => ?_⟩
  · have hlt : (j : Int) < l.length := dec_t hlt
    have hjl : j < l.length := by omega
    have hdj : (decs l)[j]? = some (lessAt l j) := by rw [hds, List.getElem?_map, List.getElem?_range hjl]; rfl
    have hdm : lessAt l j ∈ decs l := List.mem_of_getElem? hdj
    have hdd := hdl _ hdm
    have hgx : l.getD ((j : Nat) : Int).toNat 0 = l[j] := by rw [Int.toNat_natCast, List.getD_eq_getElem?_getD, List.getElem?_eq_getElem hjl]; rfl
    have hxb := hb _ (List.getElem_mem hjl)
    refine c_slices_Clone_int64_int64 (own_slI h4 (by omega)) (by omega) fun v5 w5 q5 my5 => ?_
    obtain ⟨_, ⟨_, e⟩ | ⟨b5, hb5, hb5', o5⟩⟩ := my5
    · exact absurd e hne
    have z5 := q5.size
    refine atI (own_slI o5 (by omega)) (by omega) hlt ?_
    rw [hgx, Mem.wrap_small (n := l[j] - 1) (by omega) (by omega)]
    refine putI o5 (by omega) hlt fun w6 m6 s6 o6 => ?_
    have hset : l.set ((j : Nat) : Int).toNat (l[j] - 1) = lessAt l j := by
      unfold lessAt
      rw [Int.toNat_natCast, List.getD_eq_getElem?_getD, List.getElem?_eq_getElem hjl]; rfl
    rw [hset] at o6
    refine c_slices_Sort_int64_int64 o6 (by rw [less_len]; omega) fun w7 l7 m7 o7 p7 s7 => ?_
    have q47 : Below w4.heap.size w4 w7 := q5.trans ((m6.trans m7).below z5 (by simpa using hb5))
    have hm7 := hm4.keep q47
    have hl7 : l7.length = l.length := by rw [p7.length_eq, less_len]
    have hdeg := (decs_deg hdm).1
    have hd7 : degL2 l7 = degL2 (lessAt l j) := deg_perm (p7.filter _)
    have mlt4 := hm4.lt
    refine ih (degL2 l7 + l7.length) (by omega) (Nat.le_refl _) o7 hm7 (by omega) (by intro e; rw [e] at hl7; simp at hl7; omega) (by omega) (fun x hx => decs_bd (lo := 1) (hi := 8) (by omega) hb hdm x (p7.mem_iff.1 hx)) s7 fun w8 m8 hm8 => ?_
    rw [nb_perm p7]
    have m38 : Mod [bm] w3 w8 := (m4.trans (mod_of_below q47 [bm])).trans m8
    rw [Mem.wrap_small (n := out + nb (lessAt l j)) (by omega) (by omega), Mem.wrap_small (n := (j : Int) + 1) (by omega) (by omega)]
    have htk : (decs l).take (j + 1) = (decs l).take j ++ [lessAt l j] := by rw [List.take_add_one, hdj]; rfl
    have hmm : Int.tmod (nb (lessAt l j)) 2 = nb (lessAt l j) % 2 := Int.tmod_eq_emod_of_nonneg (by omega)
    have hm0 := Int.emod_nonneg (nb (lessAt l j)) (b := 2) (by omega)
    rw [hmm]
    have hs1 : out + nb (lessAt l j) = (((decs l).take (j + 1)).map nb).sum := by rw [htk, List.map_append, List.sum_append, es]; simp
    have hs2 : (((decs l).take (j + 1)).map fun d => nb d % 2).sum = (((decs l).take j).map fun d => nb d % 2).sum + nb (lessAt l j) % 2 := by rw [htk, List.map_append, List.sum_append]; simp
    refine ⟨fun ev => ⟨by omega, hN _ _ ⟨j + 1, by simp, by omega, hs1, ?_, m38, hm8⟩ (by simp only; omega)⟩, fun ev => hN _ _ ⟨j + 1, by simp, by omega, hs1, ?_, m38, hm8⟩ (by simp only; omega)⟩
    · rw [ev] at ee
      have ee : (((decs l).take j).map fun d => nb d % 2).sum = 0 := of_decide_eq_true ee.symm
      rw [hs2, ee, Int.zero_add, Bool.eq_iff_iff]
      simp
    · rw [ev] at ee
      have ee : ¬ (((decs l).take j).map fun d => nb d % 2).sum = 0 := of_decide_eq_false ee.symm
      refine (decide_eq_false ?_).symm
      rw [hs2]
      omega
  · have hge : ¬ (j : Int) < l.length := dec_f hge
    have htk : (decs l).take j = decs l := List.take_of_length_le (by omega)
    rw [htk] at es ee hsumb hsum0 htl
    have w0 : IntKind.i64.wrap (2 - (l.length : Int)) = 2 - (l.length : Int) := Mem.wrap_small (by omega) (by omega)
    have w1 : IntKind.i64.wrap (out + (2 - (l.length : Int))) = out + (2 - (l.length : Int)) := Mem.wrap_small (by omega) (by omega)
    have w2 : IntKind.i64.wrap (out + (2 - (l.length : Int)) - 1) = out + (2 - (l.length : Int)) - 1 := Mem.wrap_small (by omega) (by omega)
    have hnb := nb_sum h1m (by rw [hbe]; omega)
    rw [hbe] at hnb
    refine c_impl_sizeS (own_slI h4 (by omega)) (lenI (own_slI h4 (by omega)) ?_)
    rw [w0, w1, w2]
    refine ⟨fun e2 => ⟨fun ev => fin ?_ m4 hm4, fun ev => fin ?_ m4 hm4⟩, fun e2 => fin ?_ m4 hm4⟩
    · have e2 := eq_t e2
      rw [ev] at ee
      have ee := of_decide_eq_true ee.symm
      rw [if_pos ⟨by omega, ee⟩] at hnb
      omega
    · have e2 := eq_t e2
      rw [ev] at ee
      have ee := of_decide_eq_false ee.symm
      rw [if_neg fun hh => ee hh.2] at hnb
      omega
    · have e2 := eq_f e2
      rw [if_neg fun hh => e2 (by omega)] at hnb
      omega
theorem c_impl_neighbourBound {v : Value} {b bm : Nat} {l : List Int} {w : World} {K : Int → World → Prop} (h : OwnI w b v l) (hm : MapN w bm) (hbm : b ≠ bm) (hne : l ≠ []) (hl : l.length ≤ 4) (hb : ∀ x ∈ l, 1 ≤ x ∧ x ≤ 8) (hs : Srt l l.length)
    (hK : ∀ w', Mod [bm] w w' → MapN w' bm → K (nb l) w') : Fc Try.prog F_impl_neighbourBound #[v, .map (some bm)] w (.one (.int .i64)) K :=
  nbi_go _ (Nat.le_refl _) h hm hbm hne hl hb hs hK

end Go.Proofs.Ytlbhpbaeokgmaaa

/- The reading of slices_Collect_int64, and its contract. No condition. -/
namespace Go.Proofs.Ytlbhpbaeokgmaaa
open Go Go.RowKit Eng Mem
set_option linter.unusedVariables false
set_option maxRecDepth 100000
def V_slices_Collect_int64 (seq0 : Value) (w : World) (K : Value → World → Prop) : Prop :=
  (Fc Try.prog 89 #[(.slice none 0 0), seq0] w (.one .any) fun (x4_2 : Value) w_1 => K (x4_2 : Value) w_1)

theorem eq_slices_Collect_int64 (seq0 : Value) (w : World) (K : Value → World → Prop) :
    W Try.prog ty (fun _ _ _ _ => False) (bodyOf Try.f84) (fnPost Try.prog Try.f84.results.toList (.one .any) K) (frame0 [seq0] 5) w = V_slices_Collect_int64 seq0 w K := by
  kernel_rfl

theorem body_slices_Collect_int64 : Try.f84.body = some (bodyOf Try.f84) := by kernel_rfl
theorem name_slices_Collect_int64 : (Try.f84.name == "runtime.NumGoroutine") = false := by kernel_rfl

theorem walk_slices_Collect_int64 (seq0 : Value) {w : World} {K : Value → World → Prop} (h : V_slices_Collect_int64 seq0 w K) : Fc Try.prog 84 #[seq0] w (.one .any) K :=
  fn_ok follows (sound_none _) Try.func84 name_slices_Collect_int64 body_slices_Collect_int64 Try.ntmps84 [seq0] (Eq.mpr (eq_slices_Collect_int64 seq0 w K) h)

-- uses S9NbC
theorem c_slices_Collect_int64 {sv : Value} {Bs : Nat} {l : List Int} {w : World} {K : Value → World → Prop} (hB : Cell w (ptr Bs 0) sv) (h : SlI w sv l) (h0 : l ≠ []) (hl : l.length ≤ 1099511627776)
    (hK : ∀ v b w', w.heap.size ≤ b → Below w.heap.size w w' → OwnI w' b v l → K v w') :
    Fc Try.prog F_slices_Collect_int64 #[.func (.func 85) #[] #[ptr Bs 0]] w (.one .any) K :=
  walk_slices_Collect_int64 _ (ap_seq hB h h0 hl hK)

end Go.Proofs.Ytlbhpbaeokgmaaa

/- The reading of slices_Sorted_int64, and its contract. No condition. -/
namespace Go.Proofs.Ytlbhpbaeokgmaaa
open Go Go.RowKit Eng Mem
set_option linter.unusedVariables false
set_option maxRecDepth 100000
def V_slices_Sorted_int64 (seq0 : Value) (w : World) (K : Value → World → Prop) : Prop :=
  (Fc Try.prog 84 #[seq0] w (.one .any) fun (x5_2 : Value) w_1 => (Fc Try.prog 83 #[x5_2] w_1 .unit fun (x7_4 : Unit) w_3 => K (x5_2 : Value) w_3))

theorem eq_slices_Sorted_int64 (seq0 : Value) (w : World) (K : Value → World → Prop) :
    W Try.prog ty (fun _ _ _ _ => False) (bodyOf Try.f66) (fnPost Try.prog Try.f66.results.toList (.one .any) K) (frame0 [seq0] 9) w = V_slices_Sorted_int64 seq0 w K := by
  kernel_rfl

theorem body_slices_Sorted_int64 : Try.f66.body = some (bodyOf Try.f66) := by kernel_rfl
theorem name_slices_Sorted_int64 : (Try.f66.name == "runtime.NumGoroutine") = false := by kernel_rfl

theorem walk_slices_Sorted_int64 (seq0 : Value) {w : World} {K : Value → World → Prop} (h : V_slices_Sorted_int64 seq0 w K) : Fc Try.prog 66 #[seq0] w (.one .any) K :=
  fn_ok follows (sound_none _) Try.func66 name_slices_Sorted_int64 body_slices_Sorted_int64 Try.ntmps66 [seq0] (Eq.mpr (eq_slices_Sorted_int64 seq0 w K) h)

-- uses S9NbC
/-- Of a short list's values. -/
theorem c_slices_Sorted_int64 {sv : Value} {Bs : Nat} {l : List Int} {w : World} {K : Value → World → Prop} (hB : Cell w (ptr Bs 0) sv) (h : SlI w sv l) (h0 : l ≠ []) (hl : l.length ≤ 12)
    (hK : ∀ v b l' w', w.heap.size ≤ b → Below w.heap.size w w' → OwnI w' b v l' → l'.Perm l → Srt l' l'.length → K v w') :
    Fc Try.prog F_slices_Sorted_int64 #[.func (.func 85) #[] #[ptr Bs 0]] w (.one .any) K := by
  refine walk_slices_Sorted_int64 _ (c_slices_Collect_int64 hB h h0 (by omega) fun v b w1 hb q1 o1 => c_slices_Sort_int64_int64 o1 hl fun w2 l' m2 o2 p2 s2 => ?_)
  exact hK v b l' w2 hb (q1.trans (m2.below q1.size (by simpa using hb))) o2 p2 s2

end Go.Proofs.Ytlbhpbaeokgmaaa

/- The reading of impl_NeighbourBound, and its contract. No condition. -/
namespace Go.Proofs.Ytlbhpbaeokgmaaa
open Go Go.RowKit Eng Mem
set_option linter.unusedVariables false
set_option maxRecDepth 100000
def V_impl_NeighbourBound (sizes0 : Value) (w : World) (K : (Int × Int) → World → Prop) : Prop :=
  (Fc Try.prog 52 #[sizes0] w (.one (.int .i64)) fun (x6_2 : Int) w_1 => (Fc Try.prog 47 #[(.int .i64 x6_2), (.int .i64 (1 : Int)), (.int .i64 (4 : Int))] w_1 (.one .bool) fun (x7_4 : Bool) w_3 => (((!x7_4) = true → K ((0 : Int), (2 : Int)) w_3) ∧ ((!x7_4) = false → (Fc Try.prog 52 #[sizes0] w_3 (.one (.int .i64)) fun (x12_6 : Int) w_5 => (Fc Try.prog 64 #[sizes0, (.int .i64 x12_6), (.int .i64 (1 : Int)), (.int .i64 (8 : Int))] w_5 (.one .bool) fun (x13_8 : Bool) w_7 => (((!x13_8) = true → K ((0 : Int), (2 : Int)) w_7) ∧ ((!x13_8) = false → (Fc Try.prog 67 #[sizes0] w_7 (.one .any) fun (x17_10 : Value) w_9 => (Fc Try.prog 66 #[x17_10] w_9 (.one .any) fun (x18_12 : Value) w_11 => (Pr Try.prog (Instr.makeMap 80 none) w_11 (.one .any) fun (x19_14 : Value) w_13 => (Fc Try.prog 65 #[x18_12, x19_14] w_13 (.one (.int .i64)) fun (x20_16 : Int) w_15 => (((decide (x20_16 > (1000000000 : Int))) = true → K ((0 : Int), (3 : Int)) w_15) ∧ ((decide (x20_16 > (1000000000 : Int))) = false → K (x20_16, (0 : Int)) w_15))))))))))))))

theorem eq_impl_NeighbourBound (sizes0 : Value) (w : World) (K : (Int × Int) → World → Prop) :
    W Try.prog ty (fun _ _ _ _ => False) (bodyOf Try.f33) (fnPost Try.prog Try.f33.results.toList (.two (.int .i64) (.int .i64)) K) (frame0 [sizes0] 24) w = V_impl_NeighbourBound sizes0 w K := by
  kernel_rfl

theorem body_impl_NeighbourBound : Try.f33.body = some (bodyOf Try.f33) := by kernel_rfl
theorem name_impl_NeighbourBound : (Try.f33.name == "runtime.NumGoroutine") = false := by kernel_rfl

theorem walk_impl_NeighbourBound (sizes0 : Value) {w : World} {K : (Int × Int) → World → Prop} (h : V_impl_NeighbourBound sizes0 w K) : Fc Try.prog 33 #[sizes0] w (.two (.int .i64) (.int .i64)) K :=
  fn_ok follows (sound_none _) Try.func33 name_impl_NeighbourBound body_impl_NeighbourBound Try.ntmps33 [sizes0] (Eq.mpr (eq_impl_NeighbourBound sizes0 w K) h)

-- uses S9NbC
-- uses S3Part
theorem c_impl_NeighbourBound {v : Value} {l : List Int} {w : World} {K : Int × Int → World → Prop} (h : ArgI w v l) (hK : ∀ w', Below w.heap.size w w' → K ((nbOf l).1, (nbOf l).2) w') :
    Fc Try.prog F_impl_NeighbourBound #[v] w (.two (.int .i64) (.int .i64)) K := by
  have bad : ∀ w', Below w.heap.size w w' → ¬ (1 ≤ l.length ∧ l.length ≤ 4 ∧ ∀ x ∈ l, 1 ≤ x ∧ x ≤ 8) → K (0, 2) w' := fun w' q hn => by
    have := hK w' q; unfold nbOf at this; rwa [if_neg hn] at this
  refine walk_impl_NeighbourBound _ (c_impl_sizeS h.sl (c_impl_in _ _ _ ⟨fun e => bad w (Below.refl _ _) fun hh => notd_t e ⟨by omega, by omega⟩, fun e => c_impl_sizeS h.sl (c_impl_areIn h.sl fun w1 q1 => ⟨fun e1 => bad w1 q1 fun hh => notd_t e1 ⟨rfl, hh.2.2⟩, fun e1 => ?_⟩)⟩))
  have e := notd_f e
  have e1 := notd_f e1
  have hb : ∀ x ∈ l, 1 ≤ x ∧ x ≤ 8 := e1.2
  have hne : l ≠ [] := by intro hh; rw [hh] at e; simp at e
  have sl1 := h.sl.keep q1
  have hv : v.cells = #[v] := by obtain ⟨_, _, _, rfl, _⟩ := h.sl.sl; rfl
  refine c_slices_Values_int64_int64 hv fun bs w2 n2 => ?_
  have q2 := q1.trans (n2.below.mono q1.size)
  have z2 := q2.size
  refine c_slices_Sorted_int64 (sv := v) (row_all (cs := [v]) n2.at_) (sl1.keep n2.below) hne (by omega) fun v3 b3 l3 w3 hb3 q3 o3 p3 s3 => ?_
  have z3 := q3.size
  refine map_new fun w4 bm hbm q4 hm => ?_
  have lt3 := o3.lt
  have ll : l3.length = l.length := p3.length_eq
  refine c_impl_neighbourBound (o3.keep q4) hm (by omega) (by intro hh; rw [hh] at ll; simp at ll; omega) (by omega) (fun x hx => hb x (p3.mem_iff.1 hx)) s3 fun w5 m5 _ => ?_
  rw [nb_perm p3]
  have z4 := q4.size
  have q5 : Below w.heap.size w w5 := q2.trans ((q3.trans ((q4.trans (m5.below z4 (by simp; omega))).mono z3)).mono z2)
  have hk := hK w5 q5
  unfold nbOf at hk
  rw [if_pos ⟨by omega, by omega, hb⟩] at hk
  refine ⟨fun e2 => ?_, fun e2 => ?_⟩
  · have e2 : nb l > 1000000000 := dec_t e2
    rw [if_pos (by omega)] at hk; exact hk
  · have e2 : ¬ nb l > 1000000000 := dec_f e2
    rw [if_neg (by omega)] at hk; exact hk

end Go.Proofs.Ytlbhpbaeokgmaaa

/- The reading of laws_FnExactNeighbourBound, and its contract. No condition. -/
namespace Go.Proofs.Ytlbhpbaeokgmaaa
open Go Go.RowKit Eng Mem
set_option linter.unusedVariables false
set_option maxRecDepth 100000
def V_laws_FnExactNeighbourBound (aSizes0 : Value) (w : World) (K : Bool → World → Prop) : Prop :=
  (QAll Try.prog (Builtin.len_ #[24] 3 #[aSizes0]) (.int .i64) fun (x9_1 : Int) => (((decide (x9_1 > (1048576 : Int))) = true → K true w) ∧ ((decide (x9_1 > (1048576 : Int))) = false → (Fc Try.prog 32 #[aSizes0] w (.one .any) fun (x13_3 : Value) w_2 => (Fc Try.prog 31 #[x13_3] w_2 (.two (.int .i64) (.int .i64)) fun (x14_5 : Int × Int) w_4 => (Fc Try.prog 32 #[aSizes0] w_4 (.one .any) fun (x18_7 : Value) w_6 => (Fc Try.prog 33 #[x18_7] w_6 (.two (.int .i64) (.int .i64)) fun (x21_9 : Int × Int) w_8 => (((x21_9.1 != x14_5.1) = true → K false w_8) ∧ ((x21_9.1 != x14_5.1) = false → (((x21_9.2 != x14_5.2) = true → K false w_8) ∧ ((x21_9.2 != x14_5.2) = false → (Fc Try.prog 32 #[aSizes0] w_8 (.one .any) fun (x34_11 : Value) w_10 => (Fc Try.prog 34 #[x18_7, x34_11] w_10 (.one .bool) fun (x35_13 : Bool) w_12 => (((!x35_13) = true → K false w_12) ∧ ((!x35_13) = false → K true w_12)))))))))))))))

theorem eq_laws_FnExactNeighbourBound (aSizes0 : Value) (w : World) (K : Bool → World → Prop) :
    W Try.prog ty (fun _ _ _ _ => False) (bodyOf Try.f5) (fnPost Try.prog Try.f5.results.toList (.one .bool) K) (frame0 [aSizes0] 37) w = V_laws_FnExactNeighbourBound aSizes0 w K := by
  kernel_rfl

theorem body_laws_FnExactNeighbourBound : Try.f5.body = some (bodyOf Try.f5) := by kernel_rfl
theorem name_laws_FnExactNeighbourBound : (Try.f5.name == "runtime.NumGoroutine") = false := by kernel_rfl

theorem walk_laws_FnExactNeighbourBound (aSizes0 : Value) {w : World} {K : Bool → World → Prop} (h : V_laws_FnExactNeighbourBound aSizes0 w K) : Fc Try.prog 5 #[aSizes0] w (.one .bool) K :=
  fn_ok follows (sound_none _) Try.func5 name_laws_FnExactNeighbourBound body_laws_FnExactNeighbourBound Try.ntmps5 [aSizes0] (Eq.mpr (eq_laws_FnExactNeighbourBound aSizes0 w K) h)

-- uses S2Sl
-- uses S9Law
theorem c_laws_FnExactNeighbourBound {a0 : Value} {l0 : List Int} {w : World} {K : Bool → World → Prop} (h0 : SlI w a0 l0 ∧ InI l0) (hK : ∀ w', Below w.heap.size w w' → K true w') :
    Fc Try.prog F_laws_FnExactNeighbourBound #[a0] w (.one .bool) K := by
  refine walk_laws_FnExactNeighbourBound _ ?_
  have B := Below.refl w.heap.size w
  refine lenI h0.1 ?_
  refine ⟨fun _ => hK _ B, fun e1 => ?_⟩
  have e1 := dec_f e1
  replace h0 : ArgI _ _ _ := ⟨h0.1, by first | omega | (have := h0.1.len; omega), h0.2⟩
  have h00 := h0
  refine c_laws_toInt64S h0 fun v5 w2 q3 f4 => ?_
  replace h0 := h0.keep q3
  replace B := B.trans (q3.mono B.size)
  have f4_in := h0.ins
  have q3_s := q3.size
  refine c_spec_NeighbourBound ⟨f4.sl, h0.len, h0.ins⟩ fun w6 q7 => ?_
  replace h0 := h0.keep q7
  replace f4 := f4.keep q7
  replace B := B.trans (q7.mono B.size)
  have q7_s := q7.size
  refine c_laws_toInt64S h0 fun v13 w10 q11 f12 => ?_
  replace h0 := h0.keep q11
  replace f4 := f4.keep q11
  replace B := B.trans (q11.mono B.size)
  have f12_in := h0.ins
  have q11_s := q11.size
  refine c_impl_NeighbourBound ⟨f12.sl, h0.len, h0.ins⟩ fun w14 q15 => ?_
  replace h0 := h0.keep q15
  replace f4 := f4.keep q15
  replace f12 := f12.keep q15
  replace B := B.trans (q15.mono B.size)
  have q15_s := q15.size
  refine ⟨fun e18 => absurd rfl (ne_t e18), fun _ => ?_⟩
  refine ⟨fun e19 => absurd rfl (ne_t e19), fun _ => ?_⟩
  refine c_laws_toInt64S h0 fun v23 w20 q21 f22 => ?_
  replace h0 := h0.keep q21
  replace f4 := f4.keep q21
  replace f12 := f12.keep q21
  replace B := B.trans (q21.mono B.size)
  have f22_in := h0.ins
  have q21_s := q21.size
  refine c_laws_eqInt64S f12.sl f22.sl fun w24 q25 => ?_
  replace h0 := h0.keep q25
  replace f4 := f4.keep q25
  replace f12 := f12.keep q25
  replace f22 := f22.keep q25
  replace B := B.trans (q25.mono B.size)
  have q25_s := q25.size
  refine ⟨fun e27 => absurd rfl (notd_t e27), fun _ => ?_⟩
  exact hK _ B

end Go.Proofs.Ytlbhpbaeokgmaaa
