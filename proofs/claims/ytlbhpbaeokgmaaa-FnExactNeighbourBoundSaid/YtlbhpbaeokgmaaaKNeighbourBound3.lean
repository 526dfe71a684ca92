/- Texts that the law FnExactNeighbourBound needs, joined. No condition. -/
import Derived.WalkKit
import Derived.ProofKit
import Derived.OpenShut
import Derived.ShutString
import Derived.ChangeOld
import Derived.SizedLaws
import Derived.ChangeSlices
import Derived.Test.YtlbhpbaeokgmaaaKNeighbourBound2
set_option linter.all false
/- How a law's arguments read as plain data: a colouring by value, a slice of integers. No condition. -/
namespace Go.Proofs.Ytlbhpbaeokgmaaa
open Go Go.RowKit Eng Mem Go.ChangeShapes Go.WideShapes Go.ChangeAt
set_option maxRecDepth 100000
theorem wf_i64 {n : Int} (h : (Lit.int .i64 n).wf = true) : -9223372036854775808 ≤ n ∧ n ≤ 9223372036854775807 := by
  simp only [Lit.wf, IntKind.min, IntKind.max, IntKind.signed, IntKind.bits, Bool.and_eq_true, decide_eq_true_eq, if_true] at h
  omega
theorem wf_u8 {n : Int} (h : (Lit.int .u8 n).wf = true) : 0 ≤ n ∧ n < 256 := by
  simp only [Lit.wf, IntKind.min, IntKind.max, IntKind.signed, IntKind.bits, Bool.and_eq_true, decide_eq_true_eq, Bool.false_eq_true, if_false] at h
  omega
theorem cellsI : Try.prog.cellsOf tI = 1 := by kernel_rfl
theorem cellsB : Try.prog.cellsOf tB = 1 := by kernel_rfl
theorem cellsA : Try.prog.cellsOf tA = 136 := by kernel_rfl
theorem cellsCL : Try.prog.cellsOf tCL = 138 := by kernel_rfl
/-- A colouring that came in by value. -/
theorem open_col {H : Type} {enc : TypeId × Value → H} {W : World} {base : Nat} {spare : Nat → Bool} {held : Bool} {v : Value} {d : DataW H} {p : List MemPlace} (h : DataW.Trod enc Try.prog W base spare held tCL v d p) :
    ∃ c : Col, v = c.val ∧ c.Ok := by
  obtain ⟨fuel, hf⟩ := h
  obtain ⟨xs, m, rfl, _, hl, hx, hfs⟩ := DataW.trod_struct Try.underlying43 hf
  rw [cellsCL] at hl
  have h0 : DataW.trod enc Try.prog W base spare held m tI ((v.cells.toList.drop 0).take (Try.prog.cellsOf tI)) = xs[0]? := hfs 0 _ rfl
  have h1 : DataW.trod enc Try.prog W base spare held m tI ((v.cells.toList.drop 1).take (Try.prog.cellsOf tI)) = xs[1]? := hfs 1 _ rfl
  have h2 : DataW.trod enc Try.prog W base spare held m tA ((v.cells.toList.drop 2).take (Try.prog.cellsOf tA)) = xs[2]? := hfs 2 _ rfl
  have l0 : ∃ y0, xs[0]? = some y0 := ⟨_, List.getElem?_eq_getElem (by rw [hx]; decide)⟩
  have l1 : ∃ y1, xs[1]? = some y1 := ⟨_, List.getElem?_eq_getElem (by rw [hx]; decide)⟩
  have l2 : ∃ y2, xs[2]? = some y2 := ⟨_, List.getElem?_eq_getElem (by rw [hx]; decide)⟩
  obtain ⟨y0, e0⟩ := l0
  obtain ⟨y1, e1⟩ := l1
  obtain ⟨y2, e2⟩ := l2
  rw [e0] at h0; rw [e1] at h1; rw [e2] at h2
  obtain ⟨n, hn, _, wn⟩ := DataW.trod_int Try.underlyingTI h0
  obtain ⟨k, hk, _, wk⟩ := DataW.trod_int Try.underlyingTI h1
  obtain ⟨ys, m2, rfl, _, hl2, hy, hes⟩ := DataW.trod_array Try.underlyingTA h2
  rw [cellsI] at hn hk
  rw [cellsB, cellsA] at hes
  have each : ∀ i, i < 136 → ∃ e : Int, v.cells.toList[i + 2]? = some (.int .u8 e) ∧ 0 ≤ e ∧ e < 256 := fun i hi => by
    have hi2 := hes i hi
    have ⟨y, ey⟩ : ∃ y, ys[i]? = some y := ⟨_, List.getElem?_eq_getElem (by rw [hy]; exact hi)⟩
    rw [ey] at hi2
    obtain ⟨e, he, _, we⟩ := DataW.trod_int Try.underlyingTB hi2
    refine ⟨e, ?_, wf_u8 we⟩
    have := congrArg (fun l => l[0]?) he
    simp only [List.getElem?_cons_zero] at this
    rw [← this, Nat.mul_one, List.getElem?_take_of_lt (by omega), List.getElem?_drop, List.getElem?_take_of_lt (by omega), List.getElem?_drop]
    congr 1; omega
  obtain ⟨f, hf⟩ : ∃ f : Nat → Int, ∀ i, i < 136 → v.cells.toList[i + 2]? = some (.int .u8 (f i)) ∧ 0 ≤ f i ∧ f i < 256 :=
    ⟨fun i => if hi : i < 136 then Classical.choose (each i hi) else 0, fun i hi => by
      have := Classical.choose_spec (each i hi)
      simp only [hi, dif_pos]
      exact this⟩
  have hlen : ((List.range 136).map f).length = 136 := by simp
  have wn' := wf_i64 wn
  have wk' := wf_i64 wk
  refine ⟨⟨n, k, (List.range 136).map f⟩, ?_, ⟨hlen, ?_, wn'.1, wn'.2, wk'.1, wk'.2⟩⟩
  · have hc : v.cells.toList = (⟨n, k, (List.range 136).map f⟩ : Col).cells := by
      apply List.ext_getElem?
      intro i
      match i with
      | 0 =>
        have := congrArg (fun l => l[0]?) hn
        simpa [Col.cells] using this
      | 1 =>
        have := congrArg (fun l => l[0]?) hk
        simpa [Col.cells, List.getElem?_take_of_lt, List.getElem?_drop] using this
      | i + 2 =>
        by_cases hi : i < 136
        · rw [(hf i hi).1]
          simp [Col.cells, hi]
        · rw [List.getElem?_eq_none (by rw [hl]; omega), List.getElem?_eq_none (by simp [Col.cells]; omega)]
    cases v with
    | agg cs =>
      simp only [Value.cells] at hc
      unfold Col.val
      rw [← hc]
    | _ => simp [Value.cells] at hl
  · intro e he
    obtain ⟨i, hi, rfl⟩ := List.mem_map.1 he
    exact (hf i (by simpa using hi)).2
theorem sized_sl {H : Type} {ts : List TypeId} {ds : List (DataW H)} (h : (DataW.weightsEach Try.prog ts ds).all (· ≤ reachBytes) = true) {j : Nat} {d : DataW H} (ht : ts[j]? = some tSI) (hd : ds[j]? = some d) :
    ∀ elems sp, d = .slice elems sp → (elems.length + sp.length) * Try.prog.bytesOf tI ≤ reachBytes := by
  rintro elems sp rfl
  exact sized_slice h ht hd Try.underlying24
theorem bytesI : Try.prog.bytesOf tI = 8 := by kernel_rfl
/-- A slice of integers that came in. -/
theorem open_slI {H : Type} {enc : TypeId × Value → H} {W : World} {base base0 : Nat} {spare : Nat → Bool} {held : Bool} {v : Value} {d : DataW H} {p : List MemPlace} (ho : Value.okWide Try.prog W .any base0 tSI v)
    (h : DataW.Trod enc Try.prog W base spare held tSI v d p) (hs : ∀ elems sp, d = .slice elems sp → (elems.length + sp.length) * Try.prog.bytesOf tI ≤ reachBytes) : ∃ l : List Int, SlI W v l ∧ InI l := by
  obtain ⟨a, n, c, rfl⟩ := okWide_slice Try.underlying24 ho
  obtain ⟨fuel, hf⟩ := h
  rcases open_ints Try.underlying24 Try.underlyingTI cellsI hf with ⟨he, _⟩ | ⟨a', len, cap, zs, hv, hb, hlc, hcm, hlen, hx, hcell, hwf⟩
  · simp only [Value.cells] at he
    have he : Value.slice a n c = .slice none 0 0 := by simpa using he
    rw [he]
    exact ⟨[], slI_nil _, fun x hx => by cases hx⟩
  · have hv : Value.slice a n c = .slice (some a') len cap := by simpa [Value.cells] using hv
    rw [hv]
    injection hx with hd _
    have hsz := hs _ _ hd
    rw [bytesI] at hsz
    have hll : len ≤ zs.length := by rw [hlen]; split <;> omega
    have hL : (zs.take len).length = len := by simp [hll]
    have hrl : reachBytes < 140737488355328 := reachBytes_lt
    refine ⟨zs.take len, ⟨⟨some a', len, cap, rfl, hlc, by simp [hll], fun hne => ?_⟩, ?_⟩, fun x hx => wf_i64 (hwf x (List.mem_of_mem_take hx))⟩
    · have h0 : 0 < (zs.take len).length := by
        rcases Nat.eq_zero_or_pos (zs.take len).length with h | h
        · exact absurd (by simp [List.eq_nil_of_length_eq_zero h]) hne
        · exact h
      have hc0 := hcell 0 (by omega)
      have hadd : a'.add 0 = a' := rfl
      rw [hadd] at hc0
      obtain ⟨b, off, spot⟩ := a'
      have hsp : spot = none := by
        unfold World.cell? at hc0
        split at hc0
        · cases spot with
          | none => rfl
          | some _ => simp at hc0
        · cases hc0
      subst hsp
      unfold World.cell? at hc0
      split at hc0
      · rename_i cs e fz ha
        refine ⟨b, off, cs, e, fz, rfl, ha, fun i hi => ?_⟩
        have hi : i < (zs.take len).length := by simpa using hi
        have hci := hcell i (by omega)
        rw [add_none] at hci
        unfold World.cell? at hci
        simp only at ha
        simp only [ha, Option.isSome_none, Bool.false_eq_true, if_false] at hci
        rw [hci, iv_get _ hi]
        simp only [List.getD, List.getElem?_take_of_lt (show i < len by omega)]
      · cases hc0
    · simp only [lits, List.length_map] at hsz
      omega

end Go.Proofs.Ytlbhpbaeokgmaaa
