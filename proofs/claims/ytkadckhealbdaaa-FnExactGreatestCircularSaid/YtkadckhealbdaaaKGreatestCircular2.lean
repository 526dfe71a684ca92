/- Texts that the law FnExactGreatestCircular needs, joined. No condition. -/
import Derived.Test.YtkadckhealbdaaaKGreatestCircular1
set_option linter.all false
/- Memory of the circular colourings and of the cliques. No condition. -/
namespace Go.Proofs.Ytkadckhealbdaaa
open Go Go.RowKit Eng Mem
set_option maxRecDepth 100000
theorem bitsN_take {p : Nat → Bool} {i : Nat} (hi : p i = true) : ∀ {n : Nat}, i < n → bitsN p n = bitsN (fun j => p j && decide (j ≠ i)) n + 2 ^ i
  | 0, h => by omega
  | n + 1, h => by
    rw [bitsN, bitsN]
    by_cases he : i = n
    · subst he
      rw [if_pos hi, bitsN_congr (q := fun j => p j && decide (j ≠ i)) (fun j hj => by simp [show j ≠ i by omega])]
      simp
    · rw [bitsN_take hi (show i < n by omega)]
      simp only [show n ≠ i from fun h => he h.symm, ne_eq, not_false_eq_true, decide_true, Bool.and_true]
      omega
/-- The points from i on in a set. -/
def fromS (s i : Nat) (j : Nat) : Bool := s.testBit j && decide (i ≤ j)
theorem fromS_no {s i n : Nat} (h : s.testBit i = false) : bitsN (fromS s i) n = bitsN (fromS s (i + 1)) n := bitsN_congr fun j _ => by
  unfold fromS
  by_cases he : j = i
  · subst he; simp [h]
  · congr 1; simp; omega
theorem fromS_yes {s i n : Nat} (h : s.testBit i = true) (hi : i < n) : bitsN (fromS s i) n = bitsN (fromS s (i + 1)) n + 2 ^ i := by
  rw [bitsN_take (p := fromS s i) (by simp [fromS, h]) hi]
  congr 1
  exact bitsN_congr fun j _ => by
    unfold fromS
    by_cases he : j = i
    · subst he; simp
    · by_cases hle : i ≤ j
      · simp [he, hle, show i + 1 ≤ j by omega]
      · simp [hle, show ¬ i + 1 ≤ j by omega]
theorem fromS_0 {s n : Nat} (h : s < 2 ^ n) : bitsN (fromS s 0) n = s := by
  rw [← bitsN_of h]
  exact bitsN_congr fun j _ => by simp [fromS, bitsN_of h]
/-- The points that go with a list, after its last. -/
def fromL (l : List Int) : Int := match l.getLast? with
  | none => 0
  | some e => e + 1
theorem fromL_app (l : List Int) (p : Int) : fromL (l ++ [p]) = p + 1 := by simp [fromL]
def goL' (x : Col) (c : Int) (l : List Int) (j : Nat) : Bool := decide (fromL l ≤ j) && l.all fun i => joinB x i j c
theorem goL_nil (x : Col) (c : Int) (j : Nat) : goL' x c [] j = true := by simp [goL', fromL]
theorem goL_app {x : Col} {c : Int} {l : List Int} {p j : Nat} (hp : fromL l ≤ p) : goL' x c (l ++ [(p : Int)]) j = (goL' x c l j && (decide (p < j) && adjC x c p j)) := by
  unfold goL' adjC
  rw [fromL_app, List.all_append]
  by_cases h : p < j
  · simp [h, show (p : Int) + 1 ≤ j by omega, show fromL l ≤ j by omega]
  · simp [h, show ¬ (p : Int) + 1 ≤ j by omega]
/-! ### Slices of colourings -/
def ccl (ls : List Col) : List Value := ls.flatMap Col.cells
theorem cells_len {c : Col} (h : c.Ok) : c.cells.length = 138 := by simp [Col.cells, h.len]
theorem ccl_len : ∀ {ls : List Col}, (∀ c ∈ ls, c.Ok) → (ccl ls).length = ls.length * 138
  | [], _ => rfl
  | c :: ls, h => by
    have := ccl_len (ls := ls) fun d hd => h d (List.mem_cons_of_mem _ hd)
    unfold ccl at this ⊢
    rw [List.flatMap_cons, List.length_append, this, cells_len (h c (List.mem_cons_self ..)), List.length_cons]
    omega
abbrev OwnS (w : World) (b : Nat) (v : Value) (ls : List Col) : Prop := Own w b tC 138 v ls.length (ccl ls)
theorem mkS0_run (w : World) : (Instr.buildSlice tSC 0 #[]).run Try.prog w = .ok (.slice (some ⟨w.heap.size, 0, none⟩) 0 0) (w.alloc (.cells #[] tC)) := by kernel_rfl
theorem mkS0 {w : World} {K : Value → World → Prop} (hK : ∀ b v w', w.heap.size ≤ b → Below w.heap.size w w' → OwnS w' b v [] → K v w') : Pr Try.prog (Instr.buildSlice tSC 0 #[]) w (.one .any) K := by
  have hn := new_alloc w (.cells #[] tC)
  exact ⟨_, _, mkS0_run w, hK w.heap.size _ _ (Nat.le_refl _) hn.below ⟨0, [], rfl, hn.at_, Nat.le_refl _, by unfold maxLen; omega, rfl, rfl, rfl⟩⟩
theorem mkS1_run {c : Col} (hc : c.Ok) (w : World) : (Instr.buildSlice tSC 1 #[(0, c.val)]).run Try.prog w = .ok (.slice (some ⟨w.heap.size, 0, none⟩) 1 1) (w.alloc (.cells c.cells.toArray tC)) := by
  have lc := cells_len hc
  obtain ⟨i, hi, hzi, hs, hb⟩ := ySC.parts
  have hsz : (Try.prog.info? tC).map (·.size) = some 138 := by rw [hi]; exact congrArg some hs
  have hzz : (Try.prog.info? tC).map (·.zero) = some (some (.agg zC.toArray)) := by rw [hi]; exact congrArg some hzi
  have hf : ∀ init : Array Value, init.size = 138 → Instr.fill (fun i => some (i * 138, 138)) init #[(0, c.val)].toList = some c.cells.toArray := fun init hi => by
    rcases init with ⟨l⟩
    have hl : l.length = 138 := hi
    have := fill_put (place := fun i => some (i * 138, 138)) (cells := l) (xs := c.cells) (i := 0) (off := 0) (v := c.val) (rest := []) (by rw [lc]) rfl (by rw [lc]; omega)
    refine this.trans ?_
    rw [List.take_zero, List.nil_append, Nat.zero_add, List.drop_eq_nil_of_le (by omega), List.append_nil]
    rfl
  unfold Instr.buildSlice
  simp only [Sem.run_bind, run_underlying ySC.und, Result.andThen_ok, sizeOf_run hsz]
  rw [if_neg (by omega), if_neg (by omega)]
  simp only [Sem.run_bind, zero_run hzz, Result.andThen_ok, Sem.run_pure]
  rw [hf _ (by simp)]
  rfl
theorem appS {w : World} {b : Nat} {v : Value} {ls : List Col} {c : Col} {t : TypeId} {K : Value → World → Prop} (hc : c.Ok) (h : OwnS w b v ls) (hl : ls.length ≤ 1000000)
    (hK : ∀ v' w' b', OwnS w' b' v' (ls ++ [c]) → Mod [b] w w' → (b' = b ∨ w.heap.size ≤ b') → K v' w') :
    Pr Try.prog (Instr.buildSlice tSC 1 #[(0, c.val)]) w (.one .any) fun y w1 => Pr Try.prog (Builtin.append_ #[tSC, tSC] t #[v, y]) w1 (.one .any) K := by
  have lc := cells_len hc
  have hn := new_alloc w (.cells c.cells.toArray tC)
  refine ⟨_, _, mkS1_run hc w, ?_⟩
  have ho1 : Own (w.alloc (.cells c.cells.toArray tC)) w.heap.size tC 138 (.slice (some ⟨w.heap.size, 0, none⟩) 1 1) 1 c.cells := ⟨1, c.cells, rfl, hn.at_, Nat.le_refl _, by unfold maxLen; omega, by omega, by rw [List.take_of_length_le (by omega)], by omega⟩
  have hlt := h.lt
  refine app ySC 1 (h.keep hn.below) ho1.sl (by omega) c.cells_one (by omega) fun v' w' b' o m hb => hK v' w' b' ?_ ((hn.mod.mono (by simp)).trans m) (by have := hn.size; omega)
  unfold OwnS ccl
  rw [List.length_append, List.length_singleton, List.flatMap_append, List.flatMap_singleton]
  exact o
theorem lenS_ {w : World} {b : Nat} {v : Value} {ls : List Col} {t : TypeId} {K : Int → Prop} (h : OwnS w b v ls) (hK : K (ls.length : Int)) : QAll Try.prog (Builtin.len_ #[tSC] t #[v]) (.int .i64) K :=
  len ySC h.sl (by rw [h.len, Nat.mul_div_cancel _ (by omega)]; exact hK)
/-- The first one is read. -/
theorem atS0 {w : World} {b : Nat} {v : Value} {c : Col} {ls : List Col} {k : IntKind} {K : Value → Prop} (hc : c.Ok) (h : OwnS w b v (c :: ls)) (hK : K c.val) :
    QAll Try.prog (Instr.indexAt tSC v (.int k 0)) .any fun p => QSub Try.prog (Instr.loadAt tC p) w .any K :=
  ixS ySC h.sl (by omega) (by rw [h.len]; simp) fun p hp => by
    have hx : ColAt w p c := hp c.cells fun j hj => by
      show (ccl (c :: ls))[0 * 138 + j]? = _
      unfold ccl
      rw [List.flatMap_cons, Nat.zero_mul, Nat.zero_add, List.getElem?_append_left hj]
    exact col_all hc hx hK
end Go.Proofs.Ytkadckhealbdaaa

/- The reading of impl_in, and its contract. No condition. -/
namespace Go.Proofs.Ytkadckhealbdaaa
open Go Go.RowKit Eng Mem
set_option linter.unusedVariables false
set_option maxRecDepth 100000
def V_impl_in (n0 : Int) (low1 : Int) (high2 : Int) (w : World) (K : Bool → World → Prop) : Prop :=
  (((decide (n0 ≥ low1)) = true → K (decide (n0 ≤ high2)) w) ∧ ((decide (n0 ≥ low1)) = false → K false w))

theorem eq_impl_in (n0 : Int) (low1 : Int) (high2 : Int) (w : World) (K : Bool → World → Prop) :
    W Try.prog ty (fun _ _ _ _ => False) (bodyOf Try.f54) (fnPost Try.prog Try.f54.results.toList (.one .bool) K) (frame0 [(.int .i64 n0), (.int .i64 low1), (.int .i64 high2)] 15) w = V_impl_in n0 low1 high2 w K := by
  kernel_rfl

theorem body_impl_in : Try.f54.body = some (bodyOf Try.f54) := by kernel_rfl
theorem name_impl_in : (Try.f54.name == "runtime.NumGoroutine") = false := by kernel_rfl

theorem walk_impl_in (n0 : Int) (low1 : Int) (high2 : Int) {w : World} {K : Bool → World → Prop} (h : V_impl_in n0 low1 high2 w K) : Fc Try.prog 54 #[(.int .i64 n0), (.int .i64 low1), (.int .i64 high2)] w (.one .bool) K :=
  fn_ok follows (sound_none _) Try.func54 name_impl_in body_impl_in Try.ntmps54 [(.int .i64 n0), (.int .i64 low1), (.int .i64 high2)] (Eq.mpr (eq_impl_in n0 low1 high2 w K) h)

theorem c_impl_in (n lo hi : Int) {w : World} {K : Bool → World → Prop} (hK : K (decide (lo ≤ n ∧ n ≤ hi)) w) : Fc Try.prog F_impl_in #[.int .i64 n, .int .i64 lo, .int .i64 hi] w (.one .bool) K := by
  refine walk_impl_in n lo hi ⟨fun h => ?_, fun h => ?_⟩
  · have h := of_decide_eq_true h
    simpa [h] using hK
  · have h := of_decide_eq_false h
    have : ¬ lo ≤ n := h
    simpa [this] using hK

end Go.Proofs.Ytkadckhealbdaaa

/- The reading of impl_areIn_1, and its contract. No condition. -/
namespace Go.Proofs.Ytkadckhealbdaaa
open Go Go.RowKit Eng Mem
set_option linter.unusedVariables false
set_option maxRecDepth 100000
def V_impl_areIn_1 (n0 : Int) (x1 : Value) (x2 : Value) (w : World) (K : Bool → World → Prop) : Prop :=
  (QSub Try.prog (Instr.loadAt 2 x1) w (.int .i64) fun (x6_1 : Int) => (QSub Try.prog (Instr.loadAt 2 x2) w (.int .i64) fun (x7_2 : Int) => (Fc Try.prog 54 #[(.int .i64 n0), (.int .i64 x6_1), (.int .i64 x7_2)] w (.one .bool) fun (x8_4 : Bool) w_3 => K (!x8_4) w_3)))

theorem eq_impl_areIn_1 (n0 : Int) (x1 : Value) (x2 : Value) (w : World) (K : Bool → World → Prop) :
    W Try.prog ty (fun _ _ _ _ => False) (bodyOf Try.f123) (fnPost Try.prog Try.f123.results.toList (.one .bool) K) (frame0 [(.int .i64 n0), x1, x2] 10) w = V_impl_areIn_1 n0 x1 x2 w K := by
  kernel_rfl

theorem body_impl_areIn_1 : Try.f123.body = some (bodyOf Try.f123) := by kernel_rfl
theorem name_impl_areIn_1 : (Try.f123.name == "runtime.NumGoroutine") = false := by kernel_rfl

theorem walk_impl_areIn_1 (n0 : Int) (x1 : Value) (x2 : Value) {w : World} {K : Bool → World → Prop} (h : V_impl_areIn_1 n0 x1 x2 w K) : Fc Try.prog 123 #[(.int .i64 n0), x1, x2] w (.one .bool) K :=
  fn_ok follows (sound_none _) Try.func123 name_impl_areIn_1 body_impl_areIn_1 Try.ntmps123 [(.int .i64 n0), x1, x2] (Eq.mpr (eq_impl_areIn_1 n0 x1 x2 w K) h)

-- uses S2Sl
theorem c_impl_areIn_1 {p q : Value} {n lo hi : Int} {w : World} {K : Bool → World → Prop} (hp : Cell w p (.int .i64 lo)) (hq : Cell w q (.int .i64 hi)) (hK : K (!decide (lo ≤ n ∧ n ≤ hi)) w) :
    Fc Try.prog F_impl_areIn_1 #[.int .i64 n, p, q] w (.one .bool) K :=
  walk_impl_areIn_1 _ _ _ (ld (k := .int .i64) yI hp (ld (k := .int .i64) yI hq (c_impl_in _ _ _ hK)))

end Go.Proofs.Ytkadckhealbdaaa

/- The reading of impl_sizeS, and its contract. No condition. -/
namespace Go.Proofs.Ytkadckhealbdaaa
open Go Go.RowKit Eng Mem
set_option linter.unusedVariables false
set_option maxRecDepth 100000
def V_impl_sizeS (list0 : Value) (w : World) (K : Int → World → Prop) : Prop :=
  (QAll Try.prog (Builtin.len_ #[31] 3 #[list0]) (.int .i64) fun (x4_1 : Int) => K x4_1 w)

theorem eq_impl_sizeS (list0 : Value) (w : World) (K : Int → World → Prop) :
    W Try.prog ty (fun _ _ _ _ => False) (bodyOf Try.f58) (fnPost Try.prog Try.f58.results.toList (.one (.int .i64)) K) (frame0 [list0] 5) w = V_impl_sizeS list0 w K := by
  kernel_rfl

theorem body_impl_sizeS : Try.f58.body = some (bodyOf Try.f58) := by kernel_rfl
theorem name_impl_sizeS : (Try.f58.name == "runtime.NumGoroutine") = false := by kernel_rfl

theorem walk_impl_sizeS (list0 : Value) {w : World} {K : Int → World → Prop} (h : V_impl_sizeS list0 w K) : Fc Try.prog 58 #[list0] w (.one (.int .i64)) K :=
  fn_ok follows (sound_none _) Try.func58 name_impl_sizeS body_impl_sizeS Try.ntmps58 [list0] (Eq.mpr (eq_impl_sizeS list0 w K) h)

-- uses S2Sl
theorem c_impl_sizeS {a : Value} {l : List Int} {w : World} {K : Int → World → Prop} (h : SlI w a l) (hK : K (l.length : Int) w) : Fc Try.prog F_impl_sizeS #[a] w (.one (.int .i64)) K :=
  walk_impl_sizeS _ (lenI h hK)

end Go.Proofs.Ytkadckhealbdaaa

/- The reading of slices_IndexFunc_int64_int64, and its contract. No condition. -/
namespace Go.Proofs.Ytkadckhealbdaaa
open Go Go.RowKit Eng Mem
set_option linter.unusedVariables false
set_option maxRecDepth 100000
def B_slices_IndexFunc_int64_int64_2 (s0 : Value) (f1 : Value) (x7 : Int) (x8 : Int) (N : (Value × Value × Int) → Int → World → Prop) (D0 : (Unit) → World → Prop) (R : (Int × Unit) → World → Prop) (w : World) : Prop :=
  (((decide (x8 < x7)) = true → (QAll Try.prog (Instr.indexAt 31 s0 (.int .i64 x8)) .any fun (x14_2 : Value) => (QSub Try.prog (Instr.loadAt 2 x14_2) w (.int .i64) fun (x15_3 : Int) => (callV Try.prog f1 #[(.int .i64 x15_3)] w (.one .bool) fun (x16_5 : Bool) w_4 => ((x16_5 = true → R (x8, ()) w_4) ∧ (x16_5 = false → N ((s0 : Value), (f1 : Value), x7) (IntKind.i64.wrap (x8 + (1 : Int))) w_4)))))) ∧ ((decide (x8 < x7)) = false → D0 () w))

abbrev L_slices_IndexFunc_int64_int64_2_e0 : List Slot := [.junk, .junk, .junk, .junk, .junk, .junk, .junk, .junk, .junk, .junk, .junk, .junk, .junk, .junk, .junk, .junk, .junk, .junk, .junk]

abbrev L_slices_IndexFunc_int64_int64_2_sp : List Slot := [.k .any, .k .any, .junk, .junk, .junk, .junk, .junk, .k (.int .i64), .k (.int .i64), .junk, .junk, .junk, .junk, .junk, .junk, .junk, .junk, .junk, .junk]
abbrev L_slices_IndexFunc_int64_int64_2_ex : List (Nat × List Slot) := [(0, L_slices_IndexFunc_int64_int64_2_e0)]
abbrev L_slices_IndexFunc_int64_int64_2_rt : List Slot := [.junk, .junk, .junk, .junk, .k (.int .i64), .junk, .junk, .junk, .junk, .junk, .junk, .junk, .junk, .junk, .junk, .junk, .junk, .junk, .junk]

def L_slices_IndexFunc_int64_int64_2_b (Φ : Post) (u : (Value × Value × Int)) (N : (Value × Value × Int) → Int → World → Prop) (s : Int) (w : World) : Prop :=
  B_slices_IndexFunc_int64_int64_2 u.1 u.2.1 u.2.2 s N (fun v w => ∀ j : Nat → Value, Φ (.exit 0) (mkT j 0 L_slices_IndexFunc_int64_int64_2_e0 v) w) (fun v w => ∀ j : Nat → Value, Φ .ret (mkT j 0 L_slices_IndexFunc_int64_int64_2_rt v) w) w

theorem L_slices_IndexFunc_int64_int64_2_eq (j : Nat → Value) (u : (Value × Value × Int)) (s : Int) (N : (Value × Value × Int) → Int → World → Prop) (D0 : (Unit) → World → Prop) (R : (Int × Unit) → World → Prop) (w : World) :
    W Try.prog ty (fun _ _ _ _ => False) (loopAt Try.f137 2) (loopPost L_slices_IndexFunc_int64_int64_2_sp [(0, (⟨L_slices_IndexFunc_int64_int64_2_e0, D0⟩ : Door))] ⟨L_slices_IndexFunc_int64_int64_2_rt, R⟩ (fun v w => N ((fun v => (v.1, v.2.1, v.2.2.1)) v) ((fun v => v.2.2.2.1) v) w)) (mkT j 0 L_slices_IndexFunc_int64_int64_2_sp ((fun u s => (u.1, u.2.1, u.2.2, s, ())) u s)) w =
    B_slices_IndexFunc_int64_int64_2 u.1 u.2.1 u.2.2 s N D0 R w := by
  kernel_rfl

def O_slices_IndexFunc_int64_int64_1 : Code → Post → List SV → World → Prop :=
  orc 2 (loopAt Try.f137 2) L_slices_IndexFunc_int64_int64_2_sp (fun Φ fr w => LOOP (U := (Value × Value × Int)) (S := Int) ((fun v => (v.1, v.2.1, v.2.2.1)) (extT L_slices_IndexFunc_int64_int64_2_sp fr)) (L_slices_IndexFunc_int64_int64_2_b Φ ((fun v => (v.1, v.2.1, v.2.2.1)) (extT L_slices_IndexFunc_int64_int64_2_sp fr))) ((fun v => v.2.2.2.1) (extT L_slices_IndexFunc_int64_int64_2_sp fr)) w) (fun _ _ _ _ => False)

theorem O_slices_IndexFunc_int64_int64_1_ok : Sound Try.prog O_slices_IndexFunc_int64_int64_1 :=
  orc_ok (sound_none _) fun Φ fr w hs h => loop_ok (ty := ty) follows (sound_none _) L_slices_IndexFunc_int64_int64_2_sp (fun v => (v.1, v.2.1, v.2.2.1)) (fun v => v.2.2.2.1) (fun u s => (u.1, u.2.1, u.2.2, s, ())) (fun _ => rfl) L_slices_IndexFunc_int64_int64_2_ex L_slices_IndexFunc_int64_int64_2_rt (body := L_slices_IndexFunc_int64_int64_2_b Φ) (fun j u s w N hb => by
    have e := L_slices_IndexFunc_int64_int64_2_eq j u s N (doorOf Φ (.exit 0) L_slices_IndexFunc_int64_int64_2_e0).D (doorOf Φ .ret L_slices_IndexFunc_int64_int64_2_rt).D w
    exact Eq.mpr e hb) hs h

def V_slices_IndexFunc_int64_int64 (s0 : Value) (f1 : Value) (w : World) (K : Int → World → Prop) : Prop :=
  (QAll Try.prog (Builtin.len_ #[31] 3 #[s0]) (.int .i64) fun (x7_1 : Int) => (At (loopAt Try.f137 2) (loopAt Try.f137 2) (LOOP (U := (Value × Value × Int)) (S := Int) ((s0 : Value), (f1 : Value), x7_1) (fun N_12 s_13 w_14 => B_slices_IndexFunc_int64_int64_2 (s0 : Value) (f1 : Value) x7_1 s_13 N_12 (fun (v_6 : (Unit)) w_7 => ∀ _j_8 : Nat → Value, K (-1 : Int) w_7) (fun (v_9 : (Int × Unit)) w_10 => ∀ _j_11 : Nat → Value, K v_9.1 w_10) w_14) (0 : Int) w)))

theorem eq_slices_IndexFunc_int64_int64 (s0 : Value) (f1 : Value) (w : World) (K : Int → World → Prop) :
    W Try.prog ty O_slices_IndexFunc_int64_int64_1 (bodyOf Try.f137) (fnPost Try.prog Try.f137.results.toList (.one (.int .i64)) K) (frame0 [s0, f1] 19) w = V_slices_IndexFunc_int64_int64 s0 f1 w K := by
  kernel_rfl

theorem body_slices_IndexFunc_int64_int64 : Try.f137.body = some (bodyOf Try.f137) := by kernel_rfl
theorem name_slices_IndexFunc_int64_int64 : (Try.f137.name == "runtime.NumGoroutine") = false := by kernel_rfl

theorem walk_slices_IndexFunc_int64_int64 (s0 : Value) (f1 : Value) {w : World} {K : Int → World → Prop} (h : V_slices_IndexFunc_int64_int64 s0 f1 w K) : Fc Try.prog 137 #[s0, f1] w (.one (.int .i64)) K :=
  fn_ok follows O_slices_IndexFunc_int64_int64_1_ok Try.func137 name_slices_IndexFunc_int64_int64 body_slices_IndexFunc_int64_int64 Try.ntmps137 [s0, f1] (Eq.mpr (eq_slices_IndexFunc_int64_int64 s0 f1 w K) h)

-- uses S2Sl
theorem c_slices_IndexFunc_int64_int64 {s f : Value} {l : List Int} (g : Int → Bool) {w : World} {K : Int → World → Prop} (h : SlI w s l)
    (hf : ∀ x ∈ l, ∀ (w' : World) (K' : Bool → World → Prop), Below w.heap.size w w' → (∀ w'', Below w'.heap.size w' w'' → K' (g x) w'') → callV Try.prog f #[.int .i64 x] w' (.one .bool) K')
    (hK : ∀ w' (r : Int), Below w.heap.size w w' → (r = -1 ∧ l.any g = false ∨ ∃ i : Nat, r = i ∧ i < l.length ∧ g (l.getD i 0) = true ∧ ∀ j, j < i → g (l.getD j 0) = false) → K r w') :
    Fc Try.prog F_slices_IndexFunc_int64_int64 #[s, f] w (.one (.int .i64)) K := by
  have hlen := h.len
  refine walk_slices_IndexFunc_int64_int64 _ _ (lenI h ?_)
  refine lp (fun i w' => 0 ≤ i ∧ i ≤ l.length ∧ Below w.heap.size w w' ∧ ∀ j : Nat, (j : Int) < i → g (l.getD j 0) = false) (fun i _ => (l.length - i).toNat)
    ⟨by omega, by omega, Below.refl _ _, fun j hj => by omega⟩ ?_
  rintro i w1 N ⟨h0, hi, hb, hall⟩ hN
  unfold B_slices_IndexFunc_int64_int64_2
  refine ⟨fun hlt => ?_, fun hge => ?_⟩
  · have hlt := dec_t hlt
    refine atI (h.keep hb) h0 hlt ?_
    have hm : l.getD i.toNat 0 ∈ l := by
      simp only [List.getD, show i.toNat < l.length from by omega, List.getElem?_eq_getElem, Option.getD_some]
      exact List.getElem_mem _
    refine hf _ hm w1 _ hb fun w2 hb2 => ?_
    have hbb := hb.trans (hb2.mono hb.size)
    refine ⟨fun ht _ => hK w2 _ hbb (.inr ⟨i.toNat, by omega, by omega, ht, fun j hj => hall j (by omega)⟩), fun hn => ?_⟩
    rw [wrap_small (by omega) (by omega)]
    refine hN _ _ ⟨by omega, by omega, hbb, fun j hj => ?_⟩ (by omega)
    by_cases hji : (j : Int) < i
    · exact hall j hji
    · have : j = i.toNat := by omega
      subst this; exact hn
  · have hge := dec_f hge
    refine fun _ => hK w1 _ hb (.inl ⟨rfl, ?_⟩)
    rw [List.any_eq_false]
    intro x hx
    obtain ⟨j, hj, rfl⟩ := List.getElem_of_mem hx
    have := hall j (by omega)
    simpa [List.getD, hj] using this

end Go.Proofs.Ytkadckhealbdaaa

/- The reading of slices_ContainsFunc_int64_int64, and its contract. No condition. -/
namespace Go.Proofs.Ytkadckhealbdaaa
open Go Go.RowKit Eng Mem
set_option linter.unusedVariables false
set_option maxRecDepth 100000
def V_slices_ContainsFunc_int64_int64 (s0 : Value) (f1 : Value) (w : World) (K : Bool → World → Prop) : Prop :=
  (Fc Try.prog 137 #[s0, f1] w (.one (.int .i64)) fun (x7_2 : Int) w_1 => K (decide (x7_2 ≥ (0 : Int))) w_1)

theorem eq_slices_ContainsFunc_int64_int64 (s0 : Value) (f1 : Value) (w : World) (K : Bool → World → Prop) :
    W Try.prog ty (fun _ _ _ _ => False) (bodyOf Try.f122) (fnPost Try.prog Try.f122.results.toList (.one .bool) K) (frame0 [s0, f1] 9) w = V_slices_ContainsFunc_int64_int64 s0 f1 w K := by
  kernel_rfl

theorem body_slices_ContainsFunc_int64_int64 : Try.f122.body = some (bodyOf Try.f122) := by kernel_rfl
theorem name_slices_ContainsFunc_int64_int64 : (Try.f122.name == "runtime.NumGoroutine") = false := by kernel_rfl

theorem walk_slices_ContainsFunc_int64_int64 (s0 : Value) (f1 : Value) {w : World} {K : Bool → World → Prop} (h : V_slices_ContainsFunc_int64_int64 s0 f1 w K) : Fc Try.prog 122 #[s0, f1] w (.one .bool) K :=
  fn_ok follows (sound_none _) Try.func122 name_slices_ContainsFunc_int64_int64 body_slices_ContainsFunc_int64_int64 Try.ntmps122 [s0, f1] (Eq.mpr (eq_slices_ContainsFunc_int64_int64 s0 f1 w K) h)

-- uses S2Sl
theorem c_slices_ContainsFunc_int64_int64 {s f : Value} {l : List Int} (g : Int → Bool) {w : World} {K : Bool → World → Prop} (h : SlI w s l)
    (hf : ∀ x ∈ l, ∀ (w' : World) (K' : Bool → World → Prop), Below w.heap.size w w' → (∀ w'', Below w'.heap.size w' w'' → K' (g x) w'') → callV Try.prog f #[.int .i64 x] w' (.one .bool) K')
    (hK : ∀ w', Below w.heap.size w w' → K (l.any g) w') :
    Fc Try.prog F_slices_ContainsFunc_int64_int64 #[s, f] w (.one .bool) K := by
  refine walk_slices_ContainsFunc_int64_int64 _ _ (c_slices_IndexFunc_int64_int64 g h hf fun w' r hb hr => ?_)
  have := hK w' hb
  rcases hr with ⟨rfl, hn⟩ | ⟨i, rfl, hi, ht, _⟩
  · rw [hn] at this; exact this
  · rw [show l.any g = true from List.any_eq_true.2 ⟨l[i], List.getElem_mem hi, by simpa [List.getD, hi] using ht⟩] at this
    rw [decide_eq_true (by omega)]; exact this

end Go.Proofs.Ytkadckhealbdaaa

/- The reading of impl_areIn, and its contract. No condition. -/
namespace Go.Proofs.Ytkadckhealbdaaa
open Go Go.RowKit Eng Mem
set_option linter.unusedVariables false
set_option maxRecDepth 100000
def V_impl_areIn (list0 : Value) (many1 : Int) (low2 : Int) (high3 : Int) (w : World) (K : Bool → World → Prop) : Prop :=
  (Pr Try.prog (Instr.box 2 (.int .i64 low2)) w (.one .any) fun (low6_2 : Value) w_1 => (Pr Try.prog (Instr.box 2 (.int .i64 high3)) w_1 (.one .any) fun (high7_4 : Value) w_3 => (Fc Try.prog 58 #[list0] w_3 (.one (.int .i64)) fun (x10_6 : Int) w_5 => (((x10_6 == many1) = true → (Fc Try.prog 122 #[list0, (.func (.func 123) #[] #[low6_2, high7_4])] w_5 (.one .bool) fun (x16_8 : Bool) w_7 => K (!x16_8) w_7)) ∧ ((x10_6 == many1) = false → K false w_5)))))

theorem eq_impl_areIn (list0 : Value) (many1 : Int) (low2 : Int) (high3 : Int) (w : World) (K : Bool → World → Prop) :
    W Try.prog ty (fun _ _ _ _ => False) (bodyOf Try.f102) (fnPost Try.prog Try.f102.results.toList (.one .bool) K) (frame0 [list0, (.int .i64 many1), (.int .i64 low2), (.int .i64 high3)] 19) w = V_impl_areIn list0 many1 low2 high3 w K := by
  kernel_rfl

theorem body_impl_areIn : Try.f102.body = some (bodyOf Try.f102) := by kernel_rfl
theorem name_impl_areIn : (Try.f102.name == "runtime.NumGoroutine") = false := by kernel_rfl

theorem walk_impl_areIn (list0 : Value) (many1 : Int) (low2 : Int) (high3 : Int) {w : World} {K : Bool → World → Prop} (h : V_impl_areIn list0 many1 low2 high3 w K) : Fc Try.prog 102 #[list0, (.int .i64 many1), (.int .i64 low2), (.int .i64 high3)] w (.one .bool) K :=
  fn_ok follows (sound_none _) Try.func102 name_impl_areIn body_impl_areIn Try.ntmps102 [list0, (.int .i64 many1), (.int .i64 low2), (.int .i64 high3)] (Eq.mpr (eq_impl_areIn list0 many1 low2 high3 w K) h)

-- uses S3Part
theorem c_impl_areIn {a : Value} {l : List Int} {many lo hi : Int} {w : World} {K : Bool → World → Prop} (h : SlI w a l) (hK : ∀ w', Below w.heap.size w w' → K (decide ((l.length : Int) = many ∧ AllIn l lo hi)) w') :
    Fc Try.prog F_impl_areIn #[a, .int .i64 many, .int .i64 lo, .int .i64 hi] w (.one .bool) K := by
  refine walk_impl_areIn _ _ _ _ (box [.int .i64 lo] rfl fun b1 w1 n1 => box [.int .i64 hi] rfl fun b2 w2 n2 => ?_)
  have hb := n1.below.trans (n2.below.mono n1.below.size)
  have c1 : Cell w2 (ptr b1 0) (.int .i64 lo) := (row_all (cs := [_]) n1.at_).keep n2.below
  have c2 : Cell w2 (ptr b2 0) (.int .i64 hi) := row_all (cs := [_]) n2.at_
  refine c_impl_sizeS (h.keep hb) ⟨fun he => ?_, fun hn => ?_⟩
  · have he := eq_t he
    refine c_slices_ContainsFunc_int64_int64 (fun x => !decide (lo ≤ x ∧ x ≤ hi)) (h.keep hb) (fun x hx w' K' hb' hk => cv rfl ?_) fun w' hb' => ?_
    · exact c_impl_areIn_1 (c1.keep hb') (c2.keep hb') (hk _ (Below.refl _ _))
    · have := hK w' (hb.trans (hb'.mono hb.size))
      have e : decide ((l.length : Int) = many ∧ AllIn l lo hi) = !(l.any fun x => !decide (lo ≤ x ∧ x ≤ hi)) := by
        rw [Bool.eq_iff_iff]
        simp [he, AllIn]
      rw [e] at this
      exact this
  · have := hK w2 hb
    rwa [decide_eq_false (fun hh => eq_f hn hh.1)] at this

end Go.Proofs.Ytkadckhealbdaaa

/- The reading of impl_areTwo, and its contract. No condition. -/
namespace Go.Proofs.Ytkadckhealbdaaa
open Go Go.RowKit Eng Mem
set_option linter.unusedVariables false
set_option maxRecDepth 100000
def V_impl_areTwo (sizes0 : Value) (w : World) (K : Bool → World → Prop) : Prop :=
  (Fc Try.prog 102 #[sizes0, (.int .i64 (2 : Int)), (.int .i64 (2 : Int)), (.int .i64 (6 : Int))] w (.one .bool) fun (x4_2 : Bool) w_1 => K x4_2 w_1)

theorem eq_impl_areTwo (sizes0 : Value) (w : World) (K : Bool → World → Prop) :
    W Try.prog ty (fun _ _ _ _ => False) (bodyOf Try.f71) (fnPost Try.prog Try.f71.results.toList (.one .bool) K) (frame0 [sizes0] 5) w = V_impl_areTwo sizes0 w K := by
  kernel_rfl

theorem body_impl_areTwo : Try.f71.body = some (bodyOf Try.f71) := by kernel_rfl
theorem name_impl_areTwo : (Try.f71.name == "runtime.NumGoroutine") = false := by kernel_rfl

theorem walk_impl_areTwo (sizes0 : Value) {w : World} {K : Bool → World → Prop} (h : V_impl_areTwo sizes0 w K) : Fc Try.prog 71 #[sizes0] w (.one .bool) K :=
  fn_ok follows (sound_none _) Try.func71 name_impl_areTwo body_impl_areTwo Try.ntmps71 [sizes0] (Eq.mpr (eq_impl_areTwo sizes0 w K) h)

-- uses S9CirM
theorem c_impl_areTwo {a : Value} {l : List Int} {w : World} {K : Bool → World → Prop} (h : SlI w a l) (hK : ∀ w', Below w.heap.size w w' → K (decide (TwoIs l)) w') : Fc Try.prog F_impl_areTwo #[a] w (.one .bool) K := by
  refine walk_impl_areTwo _ (c_impl_areIn h fun w1 q1 => ?_)
  have := hK w1 q1
  rwa [show decide (TwoIs l) = decide ((l.length : Int) = 2 ∧ AllIn l 2 6) from by
    rw [decide_eq_decide]; unfold TwoIs
    exact ⟨fun hh => ⟨by omega, hh.2⟩, fun hh => ⟨by omega, hh.2⟩⟩] at this

end Go.Proofs.Ytkadckhealbdaaa

/- The reading of impl_number, and its contract. No condition. -/
namespace Go.Proofs.Ytkadckhealbdaaa
open Go Go.RowKit Eng Mem
set_option linter.unusedVariables false
set_option maxRecDepth 100000
def V_impl_number (i0 : Int) (j1 : Int) (w : World) (K : Int → World → Prop) : Prop :=
  (QAll Try.prog (Builtin.min_ #[2, 2] 2 #[(.int .i64 i0), (.int .i64 j1)]) (.int .i64) fun (x7_1 : Int) => (QAll Try.prog (Builtin.max_ #[2, 2] 2 #[(.int .i64 i0), (.int .i64 j1)]) (.int .i64) fun (x10_2 : Int) => ((2 : Int) ≠ 0 ∧ K (IntKind.i64.wrap ((IntKind.i64.wrap (Int.tdiv (IntKind.i64.wrap (x10_2 * (IntKind.i64.wrap (x10_2 - (1 : Int))))) (2 : Int))) + x7_1)) w)))

theorem eq_impl_number (i0 : Int) (j1 : Int) (w : World) (K : Int → World → Prop) :
    W Try.prog ty (fun _ _ _ _ => False) (bodyOf Try.f115) (fnPost Try.prog Try.f115.results.toList (.one (.int .i64)) K) (frame0 [(.int .i64 i0), (.int .i64 j1)] 18) w = V_impl_number i0 j1 w K := by
  kernel_rfl

theorem body_impl_number : Try.f115.body = some (bodyOf Try.f115) := by kernel_rfl
theorem name_impl_number : (Try.f115.name == "runtime.NumGoroutine") = false := by kernel_rfl

theorem walk_impl_number (i0 : Int) (j1 : Int) {w : World} {K : Int → World → Prop} (h : V_impl_number i0 j1 w K) : Fc Try.prog 115 #[(.int .i64 i0), (.int .i64 j1)] w (.one (.int .i64)) K :=
  fn_ok follows (sound_none _) Try.func115 name_impl_number body_impl_number Try.ntmps115 [(.int .i64 i0), (.int .i64 j1)] (Eq.mpr (eq_impl_number i0 j1 w K) h)

-- uses S5Made
theorem c_impl_number {i j : Int} {w : World} {K : Int → World → Prop} (h0 : 0 ≤ i) (h1 : i ≤ 17) (k0 : 0 ≤ j) (k1 : j ≤ 17) (hK : K (num i j) w) : Fc Try.prog F_impl_number #[.int .i64 i, .int .i64 j] w (.one (.int .i64)) K := by
  refine walk_impl_number _ _ (mn (mx ⟨by decide, ?_⟩))
  by_cases h : i < j
  · rw [if_pos (show j > i from h), if_neg (by omega), wnum h0 h1 k0 k1]
    rwa [num_of h] at hK
  · rw [if_neg (show ¬ j > i from h)]
    unfold num at hK
    rw [if_neg h] at hK
    by_cases h' : j < i
    · rw [if_pos h', wnum k0 k1 h0 h1]; exact hK
    · have : i = j := by omega
      subst this
      rw [if_neg h', wnum k0 k1 h0 h1]; exact hK

end Go.Proofs.Ytkadckhealbdaaa

/- The reading of impl_Colouring_at, and its contract. No condition. -/
namespace Go.Proofs.Ytkadckhealbdaaa
open Go Go.RowKit Eng Mem
set_option linter.unusedVariables false
set_option maxRecDepth 100000
def V_impl_Colouring_at (x0 : Value) (i1 : Int) (j2 : Int) (w : World) (K : Int → World → Prop) : Prop :=
  (∀ w_1, Drew w w_1 → (NilOk x0 ∧ (QAll Try.prog (Instr.fieldAt 25 x0 2) .any fun (x12_2 : Value) => (Fc Try.prog 115 #[(.int .i64 i1), (.int .i64 j2)] w_1 (.one (.int .i64)) fun (x10_4 : Int) w_3 => (Keeps w_1 w_3 ((QAll Try.prog (Instr.indexAt 22 x12_2 (.int .i64 x10_4)) .any fun (x13_5 : Value) => (QSub Try.prog (Instr.loadAt 5 x13_5) w_3 (.int .u8) fun (x14_6 : Int) => (QAll Try.prog (convert 5 2 (.int .u8 x14_6)) (.int .i64) fun (x15_7 : Int) => K x15_7 w_3)))))))))

theorem eq_impl_Colouring_at (x0 : Value) (i1 : Int) (j2 : Int) (w : World) (K : Int → World → Prop) :
    W Try.prog ty (fun _ _ _ _ => False) (bodyOf Try.f89) (fnPost Try.prog Try.f89.results.toList (.one (.int .i64)) K) (frame0 [x0, (.int .i64 i1), (.int .i64 j2)] 16) w = V_impl_Colouring_at x0 i1 j2 w K := by
  kernel_rfl

theorem body_impl_Colouring_at : Try.f89.body = some (bodyOf Try.f89) := by kernel_rfl
theorem name_impl_Colouring_at : (Try.f89.name == "runtime.NumGoroutine") = false := by kernel_rfl

theorem walk_impl_Colouring_at (x0 : Value) (i1 : Int) (j2 : Int) {w : World} {K : Int → World → Prop} (h : V_impl_Colouring_at x0 i1 j2 w K) : Fc Try.prog 89 #[x0, (.int .i64 i1), (.int .i64 j2)] w (.one (.int .i64)) K :=
  fn_ok follows (sound_none _) Try.func89 name_impl_Colouring_at body_impl_Colouring_at Try.ntmps89 [x0, (.int .i64 i1), (.int .i64 j2)] (Eq.mpr (eq_impl_Colouring_at x0 i1 j2 w K) h)

-- uses S5Made
theorem c_impl_Colouring_at {p : Value} {c : Col} {i j : Int} {w : World} {K : Int → World → Prop} (hc : c.Ok) (hx : ColAt w p c) (h0 : 0 ≤ i) (h1 : i < 17) (k0 : 0 ≤ j) (k1 : j < 17) (hne : i ≠ j) (hK : ∀ w', Below w.heap.size w w' → K (c.e (num i j).toNat) w') :
    Fc Try.prog F_impl_Colouring_at #[p, .int .i64 i, .int .i64 j] w (.one (.int .i64)) K := by
  refine walk_impl_Colouring_at _ _ _ ?_
  intro w1 hd
  have hb := hd.below w.heap.size
  have hx := hx.keep hb
  have hn := num_lt h0 h1 k0 k1 (Int.le_refl _) hne
  rw [show edgesOf 17 = 136 from by decide] at hn
  have hbd := hc.e_bd (num i j).toNat
  exact ⟨hx.nonnil, fld f2 hx.nonnil hx.isPtr (c_impl_number h0 (by omega) k0 (by omega) ⟨Below.refl _ _, es_e hc (Col.es_row hx) hn.1 hn.2 (u8_int hbd.1 hbd.2 (hK w1 hb))⟩)⟩

end Go.Proofs.Ytkadckhealbdaaa

/- The reading of impl_Colouring_joins, and its contract. No condition. -/
namespace Go.Proofs.Ytkadckhealbdaaa
open Go Go.RowKit Eng Mem
set_option linter.unusedVariables false
set_option maxRecDepth 100000
def V_impl_Colouring_joins (x0 : Value) (i1 : Int) (j2 : Int) (c3 : Int) (w : World) (K : Bool → World → Prop) : Prop :=
  (((i1 != j2) = true → (Fc Try.prog 89 #[x0, (.int .i64 i1), (.int .i64 j2)] w (.one (.int .i64)) fun (x16_2 : Int) w_1 => K (x16_2 == c3) w_1)) ∧ ((i1 != j2) = false → K false w))

theorem eq_impl_Colouring_joins (x0 : Value) (i1 : Int) (j2 : Int) (c3 : Int) (w : World) (K : Bool → World → Prop) :
    W Try.prog ty (fun _ _ _ _ => False) (bodyOf Try.f129) (fnPost Try.prog Try.f129.results.toList (.one .bool) K) (frame0 [x0, (.int .i64 i1), (.int .i64 j2), (.int .i64 c3)] 20) w = V_impl_Colouring_joins x0 i1 j2 c3 w K := by
  kernel_rfl

theorem body_impl_Colouring_joins : Try.f129.body = some (bodyOf Try.f129) := by kernel_rfl
theorem name_impl_Colouring_joins : (Try.f129.name == "runtime.NumGoroutine") = false := by kernel_rfl

theorem walk_impl_Colouring_joins (x0 : Value) (i1 : Int) (j2 : Int) (c3 : Int) {w : World} {K : Bool → World → Prop} (h : V_impl_Colouring_joins x0 i1 j2 c3 w K) : Fc Try.prog 129 #[x0, (.int .i64 i1), (.int .i64 j2), (.int .i64 c3)] w (.one .bool) K :=
  fn_ok follows (sound_none _) Try.func129 name_impl_Colouring_joins body_impl_Colouring_joins Try.ntmps129 [x0, (.int .i64 i1), (.int .i64 j2), (.int .i64 c3)] (Eq.mpr (eq_impl_Colouring_joins x0 i1 j2 c3 w K) h)

-- uses S8Deg
theorem c_impl_Colouring_joins {p : Value} {c : Col} {i j col : Int} {w : World} {K : Bool → World → Prop} (hc : c.Ok) (hx : ColAt w p c) (h0 : 0 ≤ i) (h1 : i < 17) (k0 : 0 ≤ j) (k1 : j < 17) (hK : ∀ w', Below w.heap.size w w' → K (joinB c i j col) w') :
    Fc Try.prog F_impl_Colouring_joins #[p, .int .i64 i, .int .i64 j, .int .i64 col] w (.one .bool) K := by
  refine walk_impl_Colouring_joins _ _ _ _ ⟨fun hne => c_impl_Colouring_at hc hx h0 h1 k0 k1 (ne_t hne) fun w1 hb1 => ?_, fun he => ?_⟩
  · have := hK w1 hb1
    have e : joinB c i j col = (c.e (num i j).toNat == col) := by
      have hne := ne_t hne
      unfold joinB colAt
      by_cases h : c.e (num i j).toNat = col
      · simp [h, hne]
      · simp [h]
    rwa [e] at this
  · have := hK w (Below.refl _ _)
    have he := ne_f he
    rwa [show joinB c i j col = false from by simp [joinB, he]] at this

end Go.Proofs.Ytkadckhealbdaaa

/- The reading of impl_Colouring_goesWith_1, and its contract. No condition. -/
namespace Go.Proofs.Ytkadckhealbdaaa
open Go Go.RowKit Eng Mem
set_option linter.unusedVariables false
set_option maxRecDepth 100000
def V_impl_Colouring_goesWith_1 (i0 : Int) (x1 : Value) (x2 : Value) (x3 : Value) (w : World) (K : Bool → World → Prop) : Prop :=
  (QSub Try.prog (Instr.loadAt 77 x1) w .any fun (x6_1 : Value) => (QSub Try.prog (Instr.loadAt 2 x2) w (.int .i64) fun (x8_2 : Int) => (QSub Try.prog (Instr.loadAt 2 x3) w (.int .i64) fun (x9_3 : Int) => (Fc Try.prog 129 #[x6_1, (.int .i64 i0), (.int .i64 x8_2), (.int .i64 x9_3)] w (.one .bool) fun (x10_5 : Bool) w_4 => K (!x10_5) w_4))))

theorem eq_impl_Colouring_goesWith_1 (i0 : Int) (x1 : Value) (x2 : Value) (x3 : Value) (w : World) (K : Bool → World → Prop) :
    W Try.prog ty (fun _ _ _ _ => False) (bodyOf Try.f142) (fnPost Try.prog Try.f142.results.toList (.one .bool) K) (frame0 [(.int .i64 i0), x1, x2, x3] 12) w = V_impl_Colouring_goesWith_1 i0 x1 x2 x3 w K := by
  kernel_rfl

theorem body_impl_Colouring_goesWith_1 : Try.f142.body = some (bodyOf Try.f142) := by kernel_rfl
theorem name_impl_Colouring_goesWith_1 : (Try.f142.name == "runtime.NumGoroutine") = false := by kernel_rfl

theorem walk_impl_Colouring_goesWith_1 (i0 : Int) (x1 : Value) (x2 : Value) (x3 : Value) {w : World} {K : Bool → World → Prop} (h : V_impl_Colouring_goesWith_1 i0 x1 x2 x3 w K) : Fc Try.prog 142 #[(.int .i64 i0), x1, x2, x3] w (.one .bool) K :=
  fn_ok follows (sound_none _) Try.func142 name_impl_Colouring_goesWith_1 body_impl_Colouring_goesWith_1 Try.ntmps142 [(.int .i64 i0), x1, x2, x3] (Eq.mpr (eq_impl_Colouring_goesWith_1 i0 x1 x2 x3 w K) h)

-- uses S8Deg
theorem c_impl_Colouring_goesWith_1 {p q r x : Value} {c : Col} {i j col : Int} {w : World} {K : Bool → World → Prop} (hp : Cell w p x) (hq : Cell w q (.int .i64 j)) (hr : Cell w r (.int .i64 col)) (hc : c.Ok) (hx : ColAt w x c) (h0 : 0 ≤ i) (h1 : i < 17) (k0 : 0 ≤ j) (k1 : j < 17)
    (hK : ∀ w', Below w.heap.size w w' → K (!joinB c i j col) w') : Fc Try.prog F_impl_Colouring_goesWith_1 #[.int .i64 i, p, q, r] w (.one .bool) K :=
  walk_impl_Colouring_goesWith_1 _ _ _ _ (ld (k := .any) y1PC hp (ld (k := .int .i64) yI hq (ld (k := .int .i64) yI hr (c_impl_Colouring_joins hc hx h0 h1 k0 k1 hK))))

end Go.Proofs.Ytkadckhealbdaaa

/- The reading of impl_Colouring_goesWith, and its contract. No condition. -/
namespace Go.Proofs.Ytkadckhealbdaaa
open Go Go.RowKit Eng Mem
set_option linter.unusedVariables false
set_option maxRecDepth 100000
def V_impl_Colouring_goesWith (x0 : Value) (c1 : Int) (list2 : Value) (p3 : Int) (w : World) (K : Bool → World → Prop) : Prop :=
  (Pr Try.prog (Instr.box 77 x0) w (.one .any) fun (x4_2 : Value) w_1 => (Pr Try.prog (Instr.box 2 (.int .i64 c1)) w_1 (.one .any) fun (c5_4 : Value) w_3 => (Pr Try.prog (Instr.box 2 (.int .i64 p3)) w_3 (.one .any) fun (p7_6 : Value) w_5 => (Fc Try.prog 122 #[list2, (.func (.func 142) #[] #[x4_2, p7_6, c5_4])] w_5 (.one .bool) fun (x11_8 : Bool) w_7 => K (!x11_8) w_7))))

theorem eq_impl_Colouring_goesWith (x0 : Value) (c1 : Int) (list2 : Value) (p3 : Int) (w : World) (K : Bool → World → Prop) :
    W Try.prog ty (fun _ _ _ _ => False) (bodyOf Try.f141) (fnPost Try.prog Try.f141.results.toList (.one .bool) K) (frame0 [x0, (.int .i64 c1), list2, (.int .i64 p3)] 13) w = V_impl_Colouring_goesWith x0 c1 list2 p3 w K := by
  kernel_rfl

theorem body_impl_Colouring_goesWith : Try.f141.body = some (bodyOf Try.f141) := by kernel_rfl
theorem name_impl_Colouring_goesWith : (Try.f141.name == "runtime.NumGoroutine") = false := by kernel_rfl

theorem walk_impl_Colouring_goesWith (x0 : Value) (c1 : Int) (list2 : Value) (p3 : Int) {w : World} {K : Bool → World → Prop} (h : V_impl_Colouring_goesWith x0 c1 list2 p3 w K) : Fc Try.prog 141 #[x0, (.int .i64 c1), list2, (.int .i64 p3)] w (.one .bool) K :=
  fn_ok follows (sound_none _) Try.func141 name_impl_Colouring_goesWith body_impl_Colouring_goesWith Try.ntmps141 [x0, (.int .i64 c1), list2, (.int .i64 p3)] (Eq.mpr (eq_impl_Colouring_goesWith x0 c1 list2 p3 w K) h)

-- uses S8Deg
theorem c_impl_Colouring_goesWith {x a : Value} {c : Col} {col j : Int} {l : List Int} {w : World} {K : Bool → World → Prop} (hc : c.Ok) (hx : ColAt w x c) (ha : SlI w a l) (hl : ∀ i ∈ l, 0 ≤ i ∧ i < 17) (k0 : 0 ≤ j) (k1 : j < 17)
    (hK : ∀ w', Below w.heap.size w w' → K (l.all fun i => joinB c i j col) w') : Fc Try.prog F_impl_Colouring_goesWith #[x, .int .i64 col, a, .int .i64 j] w (.one .bool) K := by
  have hxc : x.cells = #[x] := by obtain ⟨a, rfl⟩ := hx.isPtr; rfl
  refine walk_impl_Colouring_goesWith _ _ _ _ (box [x] (by rw [hxc]) fun b1 w1 m1 => box [.int .i64 col] rfl fun b2 w2 m2 => box [.int .i64 j] rfl fun b3 w3 m3 => ?_)
  have q1 := m1.below
  have q2 := q1.trans (m2.below.mono q1.size)
  have q3 := q2.trans (m3.below.mono q2.size)
  have cx : Cell w3 (ptr b1 0) x := ((row_all (cs := [_]) m1.at_).keep m2.below).keep m3.below
  have cc : Cell w3 (ptr b2 0) (.int .i64 col) := (row_all (cs := [_]) m2.at_).keep m3.below
  have cj : Cell w3 (ptr b3 0) (.int .i64 j) := row_all (cs := [_]) m3.at_
  refine c_slices_ContainsFunc_int64_int64 (fun i => !joinB c i j col) (ha.keep q3) (fun i hi w' K' hb hk => cv rfl (c_impl_Colouring_goesWith_1 (cx.keep hb) (cj.keep hb) (cc.keep hb) hc ((hx.keep q3).keep hb) (hl i hi).1 (hl i hi).2 k0 k1 hk)) fun w4 q4 => ?_
  have := hK w4 (q3.trans (q4.mono q3.size))
  rwa [show (l.all fun i => joinB c i j col) = !(l.any fun i => !joinB c i j col) from by rw [List.not_any_eq_all_not]; simp] at this

end Go.Proofs.Ytkadckhealbdaaa

/- The reading of slices_Clone_int64_int64, and its contract. No condition. -/
namespace Go.Proofs.Ytkadckhealbdaaa
open Go Go.RowKit Eng Mem
set_option linter.unusedVariables false
set_option maxRecDepth 100000
def V_slices_Clone_int64_int64 (s0 : Value) (w : World) (K : Value → World → Prop) : Prop :=
  (QAll Try.prog (do eqGuard .eql 31 (.tmp 3) (.const (.slice none 0 0)) s0 (.slice none 0 0); binOp .eql 31 s0 (.slice none 0 0)) .bool fun (x4_1 : Bool) => ((x4_1 = true → K ((.slice none 0 0) : Value) w) ∧ (x4_1 = false → (Pr Try.prog (Instr.buildSlice 31 0 #[]) w (.one .any) fun (x5_3 : Value) w_2 => (Pr Try.prog (Builtin.append_ #[31, 31] 31 #[x5_3, s0]) w_2 (.one .any) fun (x7_5 : Value) w_4 => K (x7_5 : Value) w_4)))))

theorem eq_slices_Clone_int64_int64 (s0 : Value) (w : World) (K : Value → World → Prop) :
    W Try.prog ty (fun _ _ _ _ => False) (bodyOf Try.f64) (fnPost Try.prog Try.f64.results.toList (.one .any) K) (frame0 [s0] 8) w = V_slices_Clone_int64_int64 s0 w K := by
  kernel_rfl

theorem body_slices_Clone_int64_int64 : Try.f64.body = some (bodyOf Try.f64) := by kernel_rfl
theorem name_slices_Clone_int64_int64 : (Try.f64.name == "runtime.NumGoroutine") = false := by kernel_rfl

theorem walk_slices_Clone_int64_int64 (s0 : Value) {w : World} {K : Value → World → Prop} (h : V_slices_Clone_int64_int64 s0 w K) : Fc Try.prog 64 #[s0] w (.one .any) K :=
  fn_ok follows (sound_none _) Try.func64 name_slices_Clone_int64_int64 body_slices_Clone_int64_int64 Try.ntmps64 [s0] (Eq.mpr (eq_slices_Clone_int64_int64 s0 w K) h)

-- uses S2Sl
theorem c_slices_Clone_int64_int64 {a : Value} {l : List Int} {w : World} {K : Value → World → Prop} (h : SlI w a l) (hl : l.length ≤ 1099511627776) (hK : ∀ v w', Below w.heap.size w w' → MyI w.heap.size w'.heap.size w' v l → K v w') :
    Fc Try.prog F_slices_Clone_int64_int64 #[a] w (.one .any) K := by
  refine walk_slices_Clone_int64_int64 _ (nil_I h fun b hb => ⟨fun ht => ?_, fun _ => ?_⟩)
  · have := hb ht
    subst this
    exact hK _ w (Below.refl _ _) (myI_nil _ _ _)
  · refine nilI fun b v w1 hb1 hbel ho => ?_
    refine appsI ho (h.keep hbel) (by simpa using hl) fun v' w2 b2 o m hb2 => ?_
    have hs := hbel.size
    rw [List.nil_append] at o
    exact hK _ w2 (hbel.trans (m.below (by omega) (by simp; omega))) (own_my o hl (by omega) o.lt)

end Go.Proofs.Ytkadckhealbdaaa

/- The reading of impl_Colouring_cliques, and its contract. No condition. -/
namespace Go.Proofs.Ytkadckhealbdaaa
open Go Go.RowKit Eng Mem
set_option linter.unusedVariables false
set_option maxRecDepth 100000
def B_impl_Colouring_cliques_7 (x0 : Value) (c1 : Int) (list2 : Value) (with3 : Value) (p10 : Int) (N : (Value × Int × Value × Value) → Int → World → Prop) (D0 : (Unit) → World → Prop) (R : (Bool × Unit) → World → Prop) (w : World) : Prop :=
  (NilOk x0 ∧ (QAll Try.prog (Instr.fieldAt 25 x0 0) .any fun (x29_7 : Value) => (QSub Try.prog (Instr.loadAt 2 x29_7) w (.int .i64) fun (x30_8 : Int) => (((decide (p10 < x30_8)) = true → (Fc Try.prog 141 #[x0, (.int .i64 c1), list2, (.int .i64 p10)] w (.one .bool) fun (x38_10 : Bool) w_9 => ((x38_10 = true → (Fc Try.prog 64 #[list2] w_9 (.one .any) fun (x43_12 : Value) w_11 => (Pr Try.prog (Instr.buildSlice 31 1 #[(0, (.int .i64 p10))]) w_11 (.one .any) fun (x45_14 : Value) w_13 => (Pr Try.prog (Builtin.append_ #[31, 31] 31 #[x43_12, x45_14]) w_13 (.one .any) fun (x46_16 : Value) w_15 => (Fc Try.prog 138 #[x0, (.int .i64 c1), x46_16, with3] w_15 (.one .bool) fun (x48_18 : Bool) w_17 => (((!x48_18) = true → R (false, ()) w_17) ∧ ((!x48_18) = false → N ((x0 : Value), c1, (list2 : Value), (with3 : Value)) (IntKind.i64.wrap (p10 + (1 : Int))) w_17))))))) ∧ (x38_10 = false → N ((x0 : Value), c1, (list2 : Value), (with3 : Value)) (IntKind.i64.wrap (p10 + (1 : Int))) w_9)))) ∧ ((decide (p10 < x30_8)) = false → D0 () w)))))

abbrev L_impl_Colouring_cliques_7_e0 : List Slot := [.junk, .junk, .junk, .junk, .junk, .junk, .junk, .junk, .junk, .junk, .junk, .junk, .junk, .junk, .junk, .junk, .junk, .junk, .junk, .junk, .junk, .junk, .junk, .junk, .junk, .junk, .junk, .junk, .junk, .junk, .junk, .junk, .junk, .junk, .junk, .junk, .junk, .junk, .junk, .junk, .junk, .junk, .junk, .junk, .junk, .junk, .junk, .junk, .junk, .junk, .junk]

abbrev L_impl_Colouring_cliques_7_sp : List Slot := [.k .any, .k (.int .i64), .k .any, .k .any, .junk, .junk, .junk, .junk, .junk, .junk, .k (.int .i64), .junk, .junk, .junk, .junk, .junk, .junk, .junk, .junk, .junk, .junk, .junk, .junk, .junk, .junk, .junk, .junk, .junk, .junk, .junk, .junk, .junk, .junk, .junk, .junk, .junk, .junk, .junk, .junk, .junk, .junk, .junk, .junk, .junk, .junk, .junk, .junk, .junk, .junk, .junk, .junk]
abbrev L_impl_Colouring_cliques_7_ex : List (Nat × List Slot) := [(0, L_impl_Colouring_cliques_7_e0)]
abbrev L_impl_Colouring_cliques_7_rt : List Slot := [.junk, .junk, .junk, .junk, .junk, .junk, .junk, .junk, .k .bool, .junk, .junk, .junk, .junk, .junk, .junk, .junk, .junk, .junk, .junk, .junk, .junk, .junk, .junk, .junk, .junk, .junk, .junk, .junk, .junk, .junk, .junk, .junk, .junk, .junk, .junk, .junk, .junk, .junk, .junk, .junk, .junk, .junk, .junk, .junk, .junk, .junk, .junk, .junk, .junk, .junk, .junk]

def L_impl_Colouring_cliques_7_b (Φ : Post) (u : (Value × Int × Value × Value)) (N : (Value × Int × Value × Value) → Int → World → Prop) (s : Int) (w : World) : Prop :=
  B_impl_Colouring_cliques_7 u.1 u.2.1 u.2.2.1 u.2.2.2 s N (fun v w => ∀ j : Nat → Value, Φ (.exit 0) (mkT j 0 L_impl_Colouring_cliques_7_e0 v) w) (fun v w => ∀ j : Nat → Value, Φ .ret (mkT j 0 L_impl_Colouring_cliques_7_rt v) w) w

theorem L_impl_Colouring_cliques_7_eq (j : Nat → Value) (u : (Value × Int × Value × Value)) (s : Int) (N : (Value × Int × Value × Value) → Int → World → Prop) (D0 : (Unit) → World → Prop) (R : (Bool × Unit) → World → Prop) (w : World) :
    W Try.prog ty (fun _ _ _ _ => False) (loopAt Try.f138 7) (loopPost L_impl_Colouring_cliques_7_sp [(0, (⟨L_impl_Colouring_cliques_7_e0, D0⟩ : Door))] ⟨L_impl_Colouring_cliques_7_rt, R⟩ (fun v w => N ((fun v => (v.1, v.2.1, v.2.2.1, v.2.2.2.1)) v) ((fun v => v.2.2.2.2.1) v) w)) (mkT j 0 L_impl_Colouring_cliques_7_sp ((fun u s => (u.1, u.2.1, u.2.2.1, u.2.2.2, s, ())) u s)) w =
    B_impl_Colouring_cliques_7 u.1 u.2.1 u.2.2.1 u.2.2.2 s N D0 R w := by
  kernel_rfl

def O_impl_Colouring_cliques_1 : Code → Post → List SV → World → Prop :=
  orc 7 (loopAt Try.f138 7) L_impl_Colouring_cliques_7_sp (fun Φ fr w => LOOP (U := (Value × Int × Value × Value)) (S := Int) ((fun v => (v.1, v.2.1, v.2.2.1, v.2.2.2.1)) (extT L_impl_Colouring_cliques_7_sp fr)) (L_impl_Colouring_cliques_7_b Φ ((fun v => (v.1, v.2.1, v.2.2.1, v.2.2.2.1)) (extT L_impl_Colouring_cliques_7_sp fr))) ((fun v => v.2.2.2.2.1) (extT L_impl_Colouring_cliques_7_sp fr)) w) (fun _ _ _ _ => False)

theorem O_impl_Colouring_cliques_1_ok : Sound Try.prog O_impl_Colouring_cliques_1 :=
  orc_ok (sound_none _) fun Φ fr w hs h => loop_ok (ty := ty) follows (sound_none _) L_impl_Colouring_cliques_7_sp (fun v => (v.1, v.2.1, v.2.2.1, v.2.2.2.1)) (fun v => v.2.2.2.2.1) (fun u s => (u.1, u.2.1, u.2.2.1, u.2.2.2, s, ())) (fun _ => rfl) L_impl_Colouring_cliques_7_ex L_impl_Colouring_cliques_7_rt (body := L_impl_Colouring_cliques_7_b Φ) (fun j u s w N hb => by
    have e := L_impl_Colouring_cliques_7_eq j u s N (doorOf Φ (.exit 0) L_impl_Colouring_cliques_7_e0).D (doorOf Φ .ret L_impl_Colouring_cliques_7_rt).D w
    exact Eq.mpr e hb) hs h

def V_impl_Colouring_cliques (x0 : Value) (c1 : Int) (list2 : Value) (with3 : Value) (w : World) (K : Bool → World → Prop) : Prop :=
  (callV Try.prog with3 #[list2] w (.one .bool) fun (x13_2 : Bool) w_1 => (((!x13_2) = true → K false w_1) ∧ ((!x13_2) = false → (QAll Try.prog (Builtin.len_ #[31] 3 #[list2]) (.int .i64) fun (x16_3 : Int) => (((decide (x16_3 > (0 : Int))) = true → (QAll Try.prog (Builtin.len_ #[31] 3 #[list2]) (.int .i64) fun (x20_4 : Int) => (QAll Try.prog (Instr.indexAt 31 list2 (.int .i64 (IntKind.i64.wrap (x20_4 - (1 : Int))))) .any fun (x22_5 : Value) => (QSub Try.prog (Instr.loadAt 2 x22_5) w_1 (.int .i64) fun (x23_6 : Int) => (At (loopAt Try.f138 7) (loopAt Try.f138 7) (LOOP (U := (Value × Int × Value × Value)) (S := Int) ((x0 : Value), c1, (list2 : Value), (with3 : Value)) (fun N_25 s_26 w_27 => B_impl_Colouring_cliques_7 (x0 : Value) c1 (list2 : Value) (with3 : Value) s_26 N_25 (fun (v_19 : (Unit)) w_20 => ∀ _j_21 : Nat → Value, K true w_20) (fun (v_22 : (Bool × Unit)) w_23 => ∀ _j_24 : Nat → Value, K v_22.1 w_23) w_27) (IntKind.i64.wrap (x23_6 + (1 : Int))) w_1)))))) ∧ ((decide (x16_3 > (0 : Int))) = false → (At (loopAt Try.f138 7) (loopAt Try.f138 7) (LOOP (U := (Value × Int × Value × Value)) (S := Int) ((x0 : Value), c1, (list2 : Value), (with3 : Value)) (fun N_34 s_35 w_36 => B_impl_Colouring_cliques_7 (x0 : Value) c1 (list2 : Value) (with3 : Value) s_35 N_34 (fun (v_28 : (Unit)) w_29 => ∀ _j_30 : Nat → Value, K true w_29) (fun (v_31 : (Bool × Unit)) w_32 => ∀ _j_33 : Nat → Value, K v_31.1 w_32) w_36) (0 : Int) w_1))))))))

theorem eq_impl_Colouring_cliques (x0 : Value) (c1 : Int) (list2 : Value) (with3 : Value) (w : World) (K : Bool → World → Prop) :
    W Try.prog ty O_impl_Colouring_cliques_1 (bodyOf Try.f138) (fnPost Try.prog Try.f138.results.toList (.one .bool) K) (frame0 [x0, (.int .i64 c1), list2, with3] 51) w = V_impl_Colouring_cliques x0 c1 list2 with3 w K := by
  kernel_rfl

theorem body_impl_Colouring_cliques : Try.f138.body = some (bodyOf Try.f138) := by kernel_rfl
theorem name_impl_Colouring_cliques : (Try.f138.name == "runtime.NumGoroutine") = false := by kernel_rfl

theorem walk_impl_Colouring_cliques (x0 : Value) (c1 : Int) (list2 : Value) (with3 : Value) {w : World} {K : Bool → World → Prop} (h : V_impl_Colouring_cliques x0 c1 list2 with3 w K) : Fc Try.prog 138 #[x0, (.int .i64 c1), list2, with3] w (.one .bool) K :=
  fn_ok follows O_impl_Colouring_cliques_1_ok Try.func138 name_impl_Colouring_cliques body_impl_Colouring_cliques Try.ntmps138 [x0, (.int .i64 c1), list2, with3] (Eq.mpr (eq_impl_Colouring_cliques x0 c1 list2 with3 w K) h)

-- uses S9CirM
theorem c_impl_Colouring_cliques {px f : Value} {x : Col} {c : Int} {m : Nat} (J Q : World → Prop) (hx : x.Ok) (n0 : 0 ≤ x.n) (n1 : x.n ≤ 17)
    (hJ : ∀ w, J w → ColAt w px x) (hst : ∀ w w', J w → Below w.heap.size w w' → J w')
    (hcall : ∀ (l : List Int) (v : Value) (w' : World) (K' : Bool → World → Prop), J w' → SlI w' v l → (l.length < m → ∀ w'', Below w'.heap.size w' w'' → K' true w'') → (m ≤ l.length → ∀ w'', Q w'' → K' false w'') → callV Try.prog f #[v] w' (.one .bool) K') :
    ∀ (r : Nat) (l : List Int) (v : Value) (w : World) (K : Bool → World → Prop), l.length + r = m → J w → MyI 0 w.heap.size w v l → m ≤ 1000 → (∀ i ∈ l, 0 ≤ i ∧ i < x.n) → 
      (clqF (adjC x c) x.n.toNat r (goL' x c l) = false → ∀ w', Below w.heap.size w w' → K true w') → (clqF (adjC x c) x.n.toNat r (goL' x c l) = true → ∀ w', Q w' → K false w') →
      Fc Try.prog F_impl_Colouring_cliques #[px, .int .i64 c, v, f] w (.one .bool) K
  | r, l, v, w, K, hlen, hj, hv, hm, hl, hn, hy => by
    refine walk_impl_Colouring_cliques _ _ _ _ (hcall l v w _ hj hv.sl (fun hlt w1 q1 => ⟨fun h => absurd h (by simp), fun _ => ?_⟩) (fun hge w1 hq => ⟨fun _ => ?_, fun h => absurd h (by simp)⟩))
    case refine_2 =>
      have : r = 0 := by omega
      subst this
      exact hy rfl w1 hq
    match r, hlen, hn, hy with
    | 0, hlen, _, _ => omega
    | r + 1, hlen, hn, hy =>
    have hv1 := (hv.keep q1).mono (Nat.le_refl _) q1.size
    have ax1 := hJ w1 (hst _ _ hj q1)
    have f0 : 0 ≤ fromL l ∧ fromL l ≤ 17 := by
      unfold fromL
      cases h : l.getLast? with
      | none => simp
      | some e =>
        have := hl e (List.mem_of_getLast? h)
        simp only
        omega
    have inv : ∀ (s : Int) (w' : World), Prop := fun s w' => ∃ p : Nat, s = p ∧ fromL l ≤ p ∧ p ≤ 17 ∧ Below w1.heap.size w1 w' ∧ ∀ k, k < p → clqG (adjC x c) x.n.toNat r (goL' x c l) k = false
    have h0 : ∀ k : Nat, (k : Int) < fromL l → clqG (adjC x c) x.n.toNat r (goL' x c l) k = false := fun k hk => by
      unfold clqG goL'
      simp [show ¬ fromL l ≤ (k : Int) by omega]
    have step : ∀ (s : Int) (w' : World) (N : Value × Int × Value × Value → Int → World → Prop),
        (∃ p : Nat, s = p ∧ fromL l ≤ p ∧ p ≤ 17 ∧ Below w1.heap.size w1 w' ∧ ∀ k, k < p → clqG (adjC x c) x.n.toNat r (goL' x c l) k = false) →
        (∀ (s' : Int) (w'' : World), (∃ p : Nat, s' = p ∧ fromL l ≤ p ∧ p ≤ 17 ∧ Below w1.heap.size w1 w'' ∧ ∀ k, k < p → clqG (adjC x c) x.n.toNat r (goL' x c l) k = false) → (18 - s').toNat < (18 - s).toNat → N (px, c, v, f) s' w'') →
        B_impl_Colouring_cliques_7 px c v f s N (fun (_ : Unit) w_20 => ∀ _j_21 : Nat → Value, K true w_20) (fun (v_22 : (Bool × Unit)) w_23 => ∀ _j_24 : Nat → Value, K v_22.1 w_23) w' := by
      rintro s w2 N ⟨p, rfl, hpf, hp17, q2, hall⟩ hN
      unfold B_impl_Colouring_cliques_7
      have q02 := q1.trans (q2.mono q1.size)
      have ax2 := ax1.keep q2
      have hv2 := (hv1.keep q2).mono (Nat.le_refl _) q2.size
      refine ⟨ax2.nonnil, col_n ax2 ⟨fun hlt => ?_, fun hge => ?_⟩⟩
      · have hlt := dec_t hlt
        refine c_impl_Colouring_goesWith hx ax2 hv2.sl (fun i hi => by have := hl i hi; omega) (by omega) (by omega) fun w3 q3 => ?_
        have q23 := q2.trans (q3.mono q2.size)
        have hv3 := (hv2.keep q3).mono (Nat.le_refl _) q3.size
        have hS : goL' x c l p = (l.all fun i => joinB x i p c) := by unfold goL'; simp [hpf]
        have more : ∀ w', Below w1.heap.size w1 w' → clqG (adjC x c) x.n.toNat r (goL' x c l) p = false → N (px, c, v, f) (IntKind.i64.wrap ((p : Int) + 1)) w' := fun w' q hG => by
          rw [wrap_small (by omega) (by omega)]
          refine hN _ _ ⟨p + 1, by omega, by omega, by omega, q, fun k hk => ?_⟩ (by omega)
          by_cases hkp : k < p
          · exact hall k hkp
          · have : k = p := by omega
            subst this; exact hG
        refine ⟨fun hgo => ?_, fun hno => more w3 q23 (by unfold clqG; rw [hS, hno]; rfl)⟩
        refine c_slices_Clone_int64_int64 hv3.sl (by omega) fun u w4 q4 hu => ?_
        refine hu.app q4.size (by omega) fun u' w5 q5 hu' => ?_
        have q35 : Below w3.heap.size w3 w5 := q4.trans q5
        have q25 := q23.trans (q35.mono q23.size)
        have j5 := hst _ _ (hst _ _ hj q1) q25
        have hG : clqF (adjC x c) x.n.toNat r (goL' x c (l ++ [(p : Int)])) = clqG (adjC x c) x.n.toNat r (goL' x c l) p := by
          unfold clqG
          rw [hS, hgo, Bool.true_and]
          exact clqF_congr fun j _ => goL_app hpf
        refine c_impl_Colouring_cliques J Q hx n0 n1 hJ hst hcall r (l ++ [(p : Int)]) u' w5 _ (by simp; omega) j5 (hu'.mono (by omega) (Nat.le_refl _)) hm (fun i hi => by
          rcases List.mem_append.1 hi with hi | hi
          · exact hl i hi
          · simp at hi; omega) (fun hf w6 q6 => ⟨fun h => absurd h (by simp), fun _ => more w6 (q25.trans (q6.mono q25.size)) (by rw [← hG]; exact hf)⟩) (fun ht w6 hq => ⟨fun _ _ => hy ?_ w6 hq, fun h => absurd h (by simp)⟩)
        exact clqF_yes (i := p) (by omega) (by rw [← hG]; exact ht)
      · have hge := dec_f hge
        intro _
        refine hn (clqF_no fun k hk => hall k (by omega)) w2 q02
    refine lenI hv1.sl ⟨fun hpos => ?_, fun hz => ?_⟩
    · have hpos := dec_t hpos
      have hlast : fromL l = l.getD (l.length - 1) 0 + 1 := by
        have h1 : l.length - 1 < l.length := by omega
        unfold fromL
        rw [List.getLast?_eq_getElem?, List.getElem?_eq_getElem h1]
        simp [List.getD, h1]
      refine lenI hv1.sl ?_
      rw [wrap_small (n := (l.length : Int) - 1) (by omega) (by omega)]
      refine atI hv1.sl (by omega) (by omega) ?_
      rw [show ((l.length : Int) - 1).toNat = l.length - 1 from by omega]
      rw [show IntKind.i64.wrap (l.getD (l.length - 1) 0 + 1) = fromL l from by rw [← hlast, wrap_small (by omega) (by omega)]]
      exact lp _ (fun s _ => (18 - s).toNat) ⟨(fromL l).toNat, by omega, by omega, by omega, Below.refl _ _, fun k hk => h0 k (by omega)⟩ step
    · have hz := dec_f hz
      have hnil : l = [] := List.eq_nil_of_length_eq_zero (by omega)
      subst hnil
      exact lp _ (fun s _ => (18 - s).toNat) ⟨0, rfl, by simp [fromL], by omega, Below.refl _ _, fun k hk => absurd hk (by omega)⟩ step

end Go.Proofs.Ytkadckhealbdaaa

/- The reading of impl_Colouring_firstOf_1, and its contract. No condition. -/
namespace Go.Proofs.Ytkadckhealbdaaa
open Go Go.RowKit Eng Mem
set_option linter.unusedVariables false
set_option maxRecDepth 100000
def V_impl_Colouring_firstOf_1 (list0 : Value) (x1 : Value) (x2 : Value) (w : World) (K : Bool → World → Prop) : Prop :=
  (∀ w_1, Drew w w_1 → (QSub Try.prog (Instr.loadAt 2 x1) w_1 (.int .i64) fun (x7_2 : Int) => (Fc Try.prog 58 #[list0] w_1 (.one (.int .i64)) fun (x6_4 : Int) w_3 => (Keeps w_1 w_3 ((((decide (x6_4 < x7_2)) = true → K true w_3) ∧ ((decide (x6_4 < x7_2)) = false → (PrU Try.prog (Instr.storeAt 31 x2 list0) w_3 fun w_5 => K false w_5))))))))

theorem eq_impl_Colouring_firstOf_1 (list0 : Value) (x1 : Value) (x2 : Value) (w : World) (K : Bool → World → Prop) :
    W Try.prog ty (fun _ _ _ _ => False) (bodyOf Try.f139) (fnPost Try.prog Try.f139.results.toList (.one .bool) K) (frame0 [list0, x1, x2] 10) w = V_impl_Colouring_firstOf_1 list0 x1 x2 w K := by
  kernel_rfl

theorem body_impl_Colouring_firstOf_1 : Try.f139.body = some (bodyOf Try.f139) := by kernel_rfl
theorem name_impl_Colouring_firstOf_1 : (Try.f139.name == "runtime.NumGoroutine") = false := by kernel_rfl

theorem walk_impl_Colouring_firstOf_1 (list0 : Value) (x1 : Value) (x2 : Value) {w : World} {K : Bool → World → Prop} (h : V_impl_Colouring_firstOf_1 list0 x1 x2 w K) : Fc Try.prog 139 #[list0, x1, x2] w (.one .bool) K :=
  fn_ok follows (sound_none _) Try.func139 name_impl_Colouring_firstOf_1 body_impl_Colouring_firstOf_1 Try.ntmps139 [list0, x1, x2] (Eq.mpr (eq_impl_Colouring_firstOf_1 list0 x1 x2 w K) h)

-- uses S9CirM
theorem c_impl_Colouring_firstOf_1 {v u p : Value} {bo m : Nat} {l : List Int} {w : World} {K : Bool → World → Prop} (hv : SlI w v l) (hp : Cell w p (.int .i64 (m : Int))) (hb : Blk w bo [u] tSI)
    (hT : l.length < m → ∀ w', Below w.heap.size w w' → K true w') (hF : m ≤ l.length → ∀ w', Mod [bo] w w' → Blk w' bo [v] tSI → K false w') : Fc Try.prog F_impl_Colouring_firstOf_1 #[v, p, ptr bo 0] w (.one .bool) K := by
  refine walk_impl_Colouring_firstOf_1 _ _ _ ?_
  intro w1 hd
  have q1 := hd.below w.heap.size
  refine ld (k := .int .i64) yI (hp.keep q1) (c_impl_sizeS (hv.keep q1) ⟨Below.refl _ _, fun h => hT (by have := dec_t h; omega) w1 q1, fun h => ?_⟩)
  have h := dec_f h
  have one : v.oneCell' = true := by obtain ⟨a, n, c, rfl, _⟩ := hv.sl; rfl
  exact st y1SI (below_at q1 hb (at_lt hb)) (by simp) one fun w2 m2 s2 h2 => hF (by omega) w2 ((mod_of_below q1 _).trans m2) h2

end Go.Proofs.Ytkadckhealbdaaa

/- The reading of impl_Colouring_firstOf, and its contract. No condition. -/
namespace Go.Proofs.Ytkadckhealbdaaa
open Go Go.RowKit Eng Mem
set_option linter.unusedVariables false
set_option maxRecDepth 100000
def V_impl_Colouring_firstOf (x0 : Value) (c1 : Int) (m2 : Int) (w : World) (K : (Value × Bool) → World → Prop) : Prop :=
  (Pr Try.prog (Instr.box 2 (.int .i64 m2)) w (.one .any) fun (m5_2 : Value) w_1 => (Pr Try.prog (Instr.buildSlice 31 0 #[]) w_1 (.one .any) fun (x10_4 : Value) w_3 => (Pr Try.prog (Instr.alloc 31 true (.tuple #[])) w_3 (.one .any) fun (out8_6 : Value) w_5 => (PrU Try.prog (Instr.storeAt 31 out8_6 x10_4) w_5 fun w_7 => (Fc Try.prog 138 #[x0, (.int .i64 c1), (.slice none 0 0), (.func (.func 139) #[] #[m5_2, out8_6])] w_7 (.one .bool) fun (x14_10 : Bool) w_9 => (QSub Try.prog (Instr.loadAt 31 out8_6) w_9 .any fun (x15_11 : Value) => K ((x15_11 : Value), (!x14_10)) w_9))))))

theorem eq_impl_Colouring_firstOf (x0 : Value) (c1 : Int) (m2 : Int) (w : World) (K : (Value × Bool) → World → Prop) :
    W Try.prog ty (fun _ _ _ _ => False) (bodyOf Try.f126) (fnPost Try.prog Try.f126.results.toList (.two .any .bool) K) (frame0 [x0, (.int .i64 c1), (.int .i64 m2)] 18) w = V_impl_Colouring_firstOf x0 c1 m2 w K := by
  kernel_rfl

theorem body_impl_Colouring_firstOf : Try.f126.body = some (bodyOf Try.f126) := by kernel_rfl
theorem name_impl_Colouring_firstOf : (Try.f126.name == "runtime.NumGoroutine") = false := by kernel_rfl

theorem walk_impl_Colouring_firstOf (x0 : Value) (c1 : Int) (m2 : Int) {w : World} {K : (Value × Bool) → World → Prop} (h : V_impl_Colouring_firstOf x0 c1 m2 w K) : Fc Try.prog 126 #[x0, (.int .i64 c1), (.int .i64 m2)] w (.two .any .bool) K :=
  fn_ok follows (sound_none _) Try.func126 name_impl_Colouring_firstOf body_impl_Colouring_firstOf Try.ntmps126 [x0, (.int .i64 c1), (.int .i64 m2)] (Eq.mpr (eq_impl_Colouring_firstOf x0 c1 m2 w K) h)

-- uses S9CirM
theorem c_impl_Colouring_firstOf {px : Value} {x : Col} {c : Int} {m : Nat} {w : World} {K : Value × Bool → World → Prop} (hx : x.Ok) (n0 : 0 ≤ x.n) (n1 : x.n ≤ 17) (ax : ColAt w px x) (hm : m ≤ 1000)
    (hK : ∀ v w', Below w.heap.size w w' → K (v, clqF (adjC x c) x.n.toNat m fun _ => true) w') : Fc Try.prog F_impl_Colouring_firstOf #[px, .int .i64 c, .int .i64 (m : Int)] w (.two .any .bool) K := by
  refine walk_impl_Colouring_firstOf _ _ _ (box [.int .i64 (m : Int)] rfl fun b1 w1 m1 => nilI fun b0 v0 w2 e0 q2 o0 => alloc1 y1SI fun bo w3 m3 => st y1SI m3.at_ (by simp) (own_one_I o0) fun w4 m4 s4 h4 => ?_)
  have h4 : Blk w4 bo [v0] tSI := h4
  have e3 := m3.here; have s3 := m3.size
  have q1 := m1.below
  have q12 := q1.trans (q2.mono q1.size)
  have hs := q12.size; have hs1 := q1.size; have hs2 := q2.size
  have b24 : Below w2.heap.size w2 w4 := m3.below.trans (m4.below (by omega) (by simp; omega))
  have q4 := q12.trans (b24.mono hs)
  have cm : Cell w4 (ptr b1 0) (.int .i64 (m : Int)) := ((row_all (cs := [_]) m1.at_).keep q2).keep b24
  have hS : clqF (adjC x c) x.n.toNat m (goL' x c []) = clqF (adjC x c) x.n.toNat m fun _ => true := clqF_congr fun j _ => goL_nil x c j
  have hlb := at_lt h4
  refine c_impl_Colouring_cliques (m := m) (fun w' => Below w4.heap.size w4 w') (fun w' => ∃ u, Blk w' bo [u] tSI ∧ Below w.heap.size w w') hx n0 n1 (fun w' q => (ax.keep q4).keep q) (fun w' w'' q q' => q.trans (q'.mono q.size))
    (fun l v w' K' q hv hT hF => cv rfl (c_impl_Colouring_firstOf_1 hv (cm.keep q) (below_at q h4 hlb) hT fun hge w'' mm hb => hF hge w'' ⟨v, hb, (q4.trans (q.mono q4.size)).trans (mm.below (by have := q4.size; have := q.size; omega) (by simp; omega))⟩)) m [] (.slice none 0 0) w4 _ (by simp) (Below.refl _ _) (myI_nil _ _ _) hm (by simp) (fun hf w5 q5 => ?_) (fun ht w5 hq => ?_)
  · refine ld (k := .any) y1SI (row_all (cs := [_]) (below_at q5 h4 hlb)) ?_
    have := hK v0 w5 (q4.trans (q5.mono q4.size))
    rw [← hS, hf] at this
    exact this
  · obtain ⟨u, hb, q5⟩ := hq
    refine ld (k := .any) y1SI (row_all (cs := [_]) hb) ?_
    have := hK u w5 q5
    rw [← hS, ht] at this
    exact this

end Go.Proofs.Ytkadckhealbdaaa

/- The reading of impl_Colouring_avoids, and its contract. No condition. -/
namespace Go.Proofs.Ytkadckhealbdaaa
open Go Go.RowKit Eng Mem
set_option linter.unusedVariables false
set_option maxRecDepth 100000
def B_impl_Colouring_avoids_2 (x0 : Value) (x9 : Value) (x10 : Int) (x11 : Int) (N : (Value × Value × Int) → Int → World → Prop) (D0 : (Unit) → World → Prop) (R : (Bool × Unit) → World → Prop) (w : World) : Prop :=
  (((decide (x11 < x10)) = true → (QAll Try.prog (Instr.indexAt 31 x9 (.int .i64 x11)) .any fun (x14_2 : Value) => (QSub Try.prog (Instr.loadAt 2 x14_2) w (.int .i64) fun (x15_3 : Int) => (Fc Try.prog 126 #[x0, (.int .i64 x11), (.int .i64 x15_3)] w (.two .any .bool) fun (x20_5 : Value × Bool) w_4 => ((x20_5.2 = true → R (false, ()) w_4) ∧ (x20_5.2 = false → N ((x0 : Value), (x9 : Value), x10) (IntKind.i64.wrap (x11 + (1 : Int))) w_4)))))) ∧ ((decide (x11 < x10)) = false → D0 () w))

abbrev L_impl_Colouring_avoids_2_e0 : List Slot := [.junk, .junk, .junk, .junk, .junk, .junk, .junk, .junk, .junk, .junk, .junk, .junk, .junk, .junk, .junk, .junk, .junk, .junk, .junk, .junk, .junk, .junk, .junk, .junk, .junk]

abbrev L_impl_Colouring_avoids_2_sp : List Slot := [.k .any, .junk, .junk, .junk, .junk, .junk, .junk, .junk, .junk, .k .any, .k (.int .i64), .k (.int .i64), .junk, .junk, .junk, .junk, .junk, .junk, .junk, .junk, .junk, .junk, .junk, .junk, .junk]
abbrev L_impl_Colouring_avoids_2_ex : List (Nat × List Slot) := [(0, L_impl_Colouring_avoids_2_e0)]
abbrev L_impl_Colouring_avoids_2_rt : List Slot := [.junk, .junk, .junk, .junk, .k .bool, .junk, .junk, .junk, .junk, .junk, .junk, .junk, .junk, .junk, .junk, .junk, .junk, .junk, .junk, .junk, .junk, .junk, .junk, .junk, .junk]

def L_impl_Colouring_avoids_2_b (Φ : Post) (u : (Value × Value × Int)) (N : (Value × Value × Int) → Int → World → Prop) (s : Int) (w : World) : Prop :=
  B_impl_Colouring_avoids_2 u.1 u.2.1 u.2.2 s N (fun v w => ∀ j : Nat → Value, Φ (.exit 0) (mkT j 0 L_impl_Colouring_avoids_2_e0 v) w) (fun v w => ∀ j : Nat → Value, Φ .ret (mkT j 0 L_impl_Colouring_avoids_2_rt v) w) w

theorem L_impl_Colouring_avoids_2_eq (j : Nat → Value) (u : (Value × Value × Int)) (s : Int) (N : (Value × Value × Int) → Int → World → Prop) (D0 : (Unit) → World → Prop) (R : (Bool × Unit) → World → Prop) (w : World) :
    W Try.prog ty (fun _ _ _ _ => False) (loopAt Try.f104 2) (loopPost L_impl_Colouring_avoids_2_sp [(0, (⟨L_impl_Colouring_avoids_2_e0, D0⟩ : Door))] ⟨L_impl_Colouring_avoids_2_rt, R⟩ (fun v w => N ((fun v => (v.1, v.2.1, v.2.2.1)) v) ((fun v => v.2.2.2.1) v) w)) (mkT j 0 L_impl_Colouring_avoids_2_sp ((fun u s => (u.1, u.2.1, u.2.2, s, ())) u s)) w =
    B_impl_Colouring_avoids_2 u.1 u.2.1 u.2.2 s N D0 R w := by
  kernel_rfl

def O_impl_Colouring_avoids_1 : Code → Post → List SV → World → Prop :=
  orc 2 (loopAt Try.f104 2) L_impl_Colouring_avoids_2_sp (fun Φ fr w => LOOP (U := (Value × Value × Int)) (S := Int) ((fun v => (v.1, v.2.1, v.2.2.1)) (extT L_impl_Colouring_avoids_2_sp fr)) (L_impl_Colouring_avoids_2_b Φ ((fun v => (v.1, v.2.1, v.2.2.1)) (extT L_impl_Colouring_avoids_2_sp fr))) ((fun v => v.2.2.2.1) (extT L_impl_Colouring_avoids_2_sp fr)) w) (fun _ _ _ _ => False)

theorem O_impl_Colouring_avoids_1_ok : Sound Try.prog O_impl_Colouring_avoids_1 :=
  orc_ok (sound_none _) fun Φ fr w hs h => loop_ok (ty := ty) follows (sound_none _) L_impl_Colouring_avoids_2_sp (fun v => (v.1, v.2.1, v.2.2.1)) (fun v => v.2.2.2.1) (fun u s => (u.1, u.2.1, u.2.2, s, ())) (fun _ => rfl) L_impl_Colouring_avoids_2_ex L_impl_Colouring_avoids_2_rt (body := L_impl_Colouring_avoids_2_b Φ) (fun j u s w N hb => by
    have e := L_impl_Colouring_avoids_2_eq j u s N (doorOf Φ (.exit 0) L_impl_Colouring_avoids_2_e0).D (doorOf Φ .ret L_impl_Colouring_avoids_2_rt).D w
    exact Eq.mpr e hb) hs h

def V_impl_Colouring_avoids (x0 : Value) (sizes1 : Value) (w : World) (K : Bool → World → Prop) : Prop :=
  (QAll Try.prog (Builtin.len_ #[31] 3 #[sizes1]) (.int .i64) fun (x10_1 : Int) => (At (loopAt Try.f104 2) (loopAt Try.f104 2) (LOOP (U := (Value × Value × Int)) (S := Int) ((x0 : Value), (sizes1 : Value), x10_1) (fun N_12 s_13 w_14 => B_impl_Colouring_avoids_2 (x0 : Value) (sizes1 : Value) x10_1 s_13 N_12 (fun (v_6 : (Unit)) w_7 => ∀ _j_8 : Nat → Value, K true w_7) (fun (v_9 : (Bool × Unit)) w_10 => ∀ _j_11 : Nat → Value, K v_9.1 w_10) w_14) (0 : Int) w)))

theorem eq_impl_Colouring_avoids (x0 : Value) (sizes1 : Value) (w : World) (K : Bool → World → Prop) :
    W Try.prog ty O_impl_Colouring_avoids_1 (bodyOf Try.f104) (fnPost Try.prog Try.f104.results.toList (.one .bool) K) (frame0 [x0, sizes1] 25) w = V_impl_Colouring_avoids x0 sizes1 w K := by
  kernel_rfl

theorem body_impl_Colouring_avoids : Try.f104.body = some (bodyOf Try.f104) := by kernel_rfl
theorem name_impl_Colouring_avoids : (Try.f104.name == "runtime.NumGoroutine") = false := by kernel_rfl

theorem walk_impl_Colouring_avoids (x0 : Value) (sizes1 : Value) {w : World} {K : Bool → World → Prop} (h : V_impl_Colouring_avoids x0 sizes1 w K) : Fc Try.prog 104 #[x0, sizes1] w (.one .bool) K :=
  fn_ok follows O_impl_Colouring_avoids_1_ok Try.func104 name_impl_Colouring_avoids body_impl_Colouring_avoids Try.ntmps104 [x0, sizes1] (Eq.mpr (eq_impl_Colouring_avoids x0 sizes1 w K) h)

-- uses S9CirM
theorem c_impl_Colouring_avoids {px a : Value} {x : Col} {l : List Int} {w : World} {K : Bool → World → Prop} (hx : x.Ok) (n0 : 0 ≤ x.n) (n1 : x.n ≤ 17) (ax : ColAt w px x) (ha : SlI w a l) (hl : AllIn l 0 1000)
    (hK : ∀ w', Below w.heap.size w w' → K (avo x l) w') : Fc Try.prog F_impl_Colouring_avoids #[px, a] w (.one .bool) K := by
  have hll := ha.len
  refine walk_impl_Colouring_avoids _ _ (lenI ha ?_)
  refine lp (fun s w' => Below w.heap.size w w' ∧ ∃ k : Nat, s = k ∧ k ≤ l.length ∧ ∀ d : Nat, d < k → clqF (adjC x d) x.n.toNat (l.getD d 0).toNat (fun _ => true) = false) (fun s _ => (l.length - s).toNat) ⟨Below.refl _ _, 0, rfl, by omega, fun d hd => absurd hd (by omega)⟩ ?_
  rintro t w2 N ⟨q2, k, hk, hkl, hall⟩ hN
  subst hk
  unfold B_impl_Colouring_avoids_2
  refine ⟨fun hlt => ?_, fun hge => ?_⟩
  · have hlt := dec_t hlt
    refine atI (ha.keep q2) (by omega) hlt ?_
    rw [Int.toNat_natCast]
    have hin := hl.get (i := k) (by omega)
    have hf := fun K' => c_impl_Colouring_firstOf (px := px) (x := x) (c := (k : Int)) (m := (l.getD k 0).toNat) (w := w2) (K := K') hx n0 n1 (ax.keep q2) (by omega)
    rw [show (((l.getD k 0).toNat : Nat) : Int) = l.getD k 0 from by omega] at hf
    refine hf _ fun v w3 q3 => ?_
    have q23 := q2.trans (q3.mono q2.size)
    refine ⟨fun hy => ?_, fun hn => ?_⟩
    · intro _
      have := hK w3 q23
      rwa [show avo x l = false from decide_eq_false fun h => by rw [h k (by omega)] at hy; cases hy] at this
    · rw [wrap_small (by omega) (by omega)]
      refine hN _ _ ⟨q23, k + 1, by omega, by omega, fun d hd => ?_⟩ (by omega)
      by_cases hdk : d < k
      · exact hall d hdk
      · have : d = k := by omega
        subst this; exact hn
  · have hge := dec_f hge
    have : k = l.length := by omega
    subst this
    intro _
    have := hK w2 q2
    rwa [show avo x l = true from decide_eq_true hall] at this

end Go.Proofs.Ytkadckhealbdaaa

/- The reading of impl_distance, and its contract. No condition. -/
namespace Go.Proofs.Ytkadckhealbdaaa
open Go Go.RowKit Eng Mem
set_option linter.unusedVariables false
set_option maxRecDepth 100000
def V_impl_distance (n0 : Int) (i1 : Int) (j2 : Int) (w : World) (K : Int → World → Prop) : Prop :=
  (QAll Try.prog (Builtin.max_ #[2, 2] 2 #[(.int .i64 i1), (.int .i64 j2)]) (.int .i64) fun (x10_1 : Int) => (QAll Try.prog (Builtin.min_ #[2, 2] 2 #[(.int .i64 i1), (.int .i64 j2)]) (.int .i64) fun (x13_2 : Int) => (QAll Try.prog (Builtin.min_ #[2, 2] 2 #[(.int .i64 (IntKind.i64.wrap (x10_1 - x13_2))), (.int .i64 (IntKind.i64.wrap (n0 - (IntKind.i64.wrap (x10_1 - x13_2)))))]) (.int .i64) fun (x19_3 : Int) => K x19_3 w)))

theorem eq_impl_distance (n0 : Int) (i1 : Int) (j2 : Int) (w : World) (K : Int → World → Prop) :
    W Try.prog ty (fun _ _ _ _ => False) (bodyOf Try.f125) (fnPost Try.prog Try.f125.results.toList (.one (.int .i64)) K) (frame0 [(.int .i64 n0), (.int .i64 i1), (.int .i64 j2)] 20) w = V_impl_distance n0 i1 j2 w K := by
  kernel_rfl

theorem body_impl_distance : Try.f125.body = some (bodyOf Try.f125) := by kernel_rfl
theorem name_impl_distance : (Try.f125.name == "runtime.NumGoroutine") = false := by kernel_rfl

theorem walk_impl_distance (n0 : Int) (i1 : Int) (j2 : Int) {w : World} {K : Int → World → Prop} (h : V_impl_distance n0 i1 j2 w K) : Fc Try.prog 125 #[(.int .i64 n0), (.int .i64 i1), (.int .i64 j2)] w (.one (.int .i64)) K :=
  fn_ok follows (sound_none _) Try.func125 name_impl_distance body_impl_distance Try.ntmps125 [(.int .i64 n0), (.int .i64 i1), (.int .i64 j2)] (Eq.mpr (eq_impl_distance n0 i1 j2 w K) h)

-- uses S6Pair
theorem c_impl_distance {i j n : Int} {w : World} {K : Int → World → Prop} (h0 : 0 ≤ i) (h1 : i < j) (h2 : j < n) (h3 : n ≤ 17) (hK : K (dist n i j) w) : Fc Try.prog F_impl_distance #[.int .i64 n, .int .i64 i, .int .i64 j] w (.one (.int .i64)) K := by
  refine walk_impl_distance _ _ _ (mx (mn (mn ?_)))
  rw [if_pos (show j > i from h1), if_neg (show ¬ j < i by omega), wrap_small (n := j - i) (by omega) (by omega), wrap_small (by omega) (by omega)]
  unfold dist at hK
  by_cases h : j - i ≤ n - (j - i)
  · rw [if_pos h] at hK
    rwa [if_neg (by omega)]
  · rw [if_neg h] at hK
    rwa [if_pos (by omega)]

end Go.Proofs.Ytkadckhealbdaaa

/- The reading of impl_circularOf_1, and its contract. No condition. -/
namespace Go.Proofs.Ytkadckhealbdaaa
open Go Go.RowKit Eng Mem
set_option linter.unusedVariables false
set_option maxRecDepth 100000
def V_impl_circularOf_1 (i0 : Int) (j1 : Int) (x2 : Value) (x3 : Value) (w : World) (K : Int → World → Prop) : Prop :=
  (∀ w_1, Drew w w_1 → (QSub Try.prog (Instr.loadAt 31 x2) w_1 .any fun (x7_2 : Value) => (QSub Try.prog (Instr.loadAt 2 x3) w_1 (.int .i64) fun (x8_3 : Int) => (Fc Try.prog 125 #[(.int .i64 x8_3), (.int .i64 i0), (.int .i64 j1)] w_1 (.one (.int .i64)) fun (x11_5 : Int) w_4 => (Keeps w_1 w_4 ((QAll Try.prog (Instr.indexAt 31 x7_2 (.int .i64 (IntKind.i64.wrap (x11_5 - (1 : Int))))) .any fun (x13_6 : Value) => (QSub Try.prog (Instr.loadAt 2 x13_6) w_4 (.int .i64) fun (x14_7 : Int) => K x14_7 w_4))))))))

theorem eq_impl_circularOf_1 (i0 : Int) (j1 : Int) (x2 : Value) (x3 : Value) (w : World) (K : Int → World → Prop) :
    W Try.prog ty (fun _ _ _ _ => False) (bodyOf Try.f124) (fnPost Try.prog Try.f124.results.toList (.one (.int .i64)) K) (frame0 [(.int .i64 i0), (.int .i64 j1), x2, x3] 15) w = V_impl_circularOf_1 i0 j1 x2 x3 w K := by
  kernel_rfl

theorem body_impl_circularOf_1 : Try.f124.body = some (bodyOf Try.f124) := by kernel_rfl
theorem name_impl_circularOf_1 : (Try.f124.name == "runtime.NumGoroutine") = false := by kernel_rfl

theorem walk_impl_circularOf_1 (i0 : Int) (j1 : Int) (x2 : Value) (x3 : Value) {w : World} {K : Int → World → Prop} (h : V_impl_circularOf_1 i0 j1 x2 x3 w K) : Fc Try.prog 124 #[(.int .i64 i0), (.int .i64 j1), x2, x3] w (.one (.int .i64)) K :=
  fn_ok follows (sound_none _) Try.func124 name_impl_circularOf_1 body_impl_circularOf_1 Try.ntmps124 [(.int .i64 i0), (.int .i64 j1), x2, x3] (Eq.mpr (eq_impl_circularOf_1 i0 j1 x2 x3 w K) h)

-- uses S7Sq
theorem c_impl_circularOf_1 {p q v : Value} {l : List Int} {n i j : Int} {w : World} {K : Int → World → Prop} (hp : Cell w p v) (hq : Cell w q (.int .i64 n)) (h : SlI w v l) (i0 : 0 ≤ i) (i1 : i < j) (i2 : j < n) (n1 : n ≤ 17) (hl : n / 2 ≤ (l.length : Int))
    (hK : ∀ w', Below w.heap.size w w' → K (circG l n i j) w') : Fc Try.prog F_impl_circularOf_1 #[.int .i64 i, .int .i64 j, p, q] w (.one (.int .i64)) K := by
  have hd := dist_bd i0 i1 i2
  refine walk_impl_circularOf_1 _ _ _ _ ?_
  intro w1 hdr
  have hb := hdr.below w.heap.size
  refine ld (k := .any) y1SI (hp.keep hb) (ld (k := .int .i64) yI (hq.keep hb) (c_impl_distance i0 i1 i2 n1 ⟨Below.refl _ _, ?_⟩))
  rw [wrap_small (by omega) (by omega)]
  exact atI (h.keep hb) (by omega) (by omega) (hK w1 hb)

end Go.Proofs.Ytkadckhealbdaaa

/- The reading of impl_Colouring_put, and its contract. No condition. -/
namespace Go.Proofs.Ytkadckhealbdaaa
open Go Go.RowKit Eng Mem
set_option linter.unusedVariables false
set_option maxRecDepth 100000
def V_impl_Colouring_put (x0 : Value) (i1 : Int) (j2 : Int) (c3 : Int) (w : World) (K : Unit → World → Prop) : Prop :=
  (∀ w_1, Drew w w_1 → (QAll Try.prog (convert 2 5 (.int .i64 c3)) (.int .u8) fun (x13_2 : Int) => (NilOk x0 ∧ (QAll Try.prog (Instr.fieldAt 25 x0 2) .any fun (x15_3 : Value) => (Fc Try.prog 115 #[(.int .i64 i1), (.int .i64 j2)] w_1 (.one (.int .i64)) fun (x11_5 : Int) w_4 => (QAll Try.prog (Instr.indexAt 22 x15_3 (.int .i64 x11_5)) .any fun (x16_6 : Value) => (PrU Try.prog (Instr.storeAt 5 x16_6 (.int .u8 x13_2)) w_4 fun w_7 => K () w_7)))))))

theorem eq_impl_Colouring_put (x0 : Value) (i1 : Int) (j2 : Int) (c3 : Int) (w : World) (K : Unit → World → Prop) :
    W Try.prog ty (fun _ _ _ _ => False) (bodyOf Try.f114) (fnPost Try.prog Try.f114.results.toList .unit K) (frame0 [x0, (.int .i64 i1), (.int .i64 j2), (.int .i64 c3)] 17) w = V_impl_Colouring_put x0 i1 j2 c3 w K := by
  kernel_rfl

theorem body_impl_Colouring_put : Try.f114.body = some (bodyOf Try.f114) := by kernel_rfl
theorem name_impl_Colouring_put : (Try.f114.name == "runtime.NumGoroutine") = false := by kernel_rfl

theorem walk_impl_Colouring_put (x0 : Value) (i1 : Int) (j2 : Int) (c3 : Int) {w : World} {K : Unit → World → Prop} (h : V_impl_Colouring_put x0 i1 j2 c3 w K) : Fc Try.prog 114 #[x0, (.int .i64 i1), (.int .i64 j2), (.int .i64 c3)] w .unit K :=
  fn_ok follows (sound_none _) Try.func114 name_impl_Colouring_put body_impl_Colouring_put Try.ntmps114 [x0, (.int .i64 i1), (.int .i64 j2), (.int .i64 c3)] (Eq.mpr (eq_impl_Colouring_put x0 i1 j2 c3 w K) h)

-- uses S5Made
theorem c_impl_Colouring_put {b : Nat} {n k : Int} {es : List Int} {i j c : Int} {w : World} {K : Unit → World → Prop} (h : BlkC w b ⟨n, k, es⟩) (hl : es.length = 136) (h0 : 0 ≤ i) (h1 : i < 17) (k0 : 0 ≤ j) (k1 : j < 17) (hne : i ≠ j) (c0 : 0 ≤ c) (c1 : c < 256)
    (hK : ∀ w', Mod [b] w w' → BlkC w' b ⟨n, k, es.set (num i j).toNat c⟩ → K () w') :
    Fc Try.prog F_impl_Colouring_put #[ptr b 0, .int .i64 i, .int .i64 j, .int .i64 c] w .unit K := by
  refine walk_impl_Colouring_put _ _ _ _ ?_
  intro w1 hd
  have hb := hd.below w.heap.size
  have hx : BlkC w1 b ⟨n, k, es⟩ := below_at hb h (at_lt h)
  have hn := num_lt h0 h1 k0 k1 (Int.le_refl _) hne
  rw [show edgesOf 17 = 136 from by decide] at hn
  refine int_u8 c0 c1 ⟨.inl ⟨_, rfl⟩, fldp f2 (c_impl_number h0 (by omega) k0 (by omega) (put_e hx hl hn.1 hn.2 fun w2 m hs hb2 => ?_))⟩
  exact hK w2 ((mod_of_below hb [b]).trans m) hb2

end Go.Proofs.Ytkadckhealbdaaa

/- The reading of impl_made, and its contract. No condition. -/
namespace Go.Proofs.Ytkadckhealbdaaa
open Go Go.RowKit Eng Mem
set_option linter.unusedVariables false
set_option maxRecDepth 100000
def B_impl_made_6 (of2 : Value) (x6 : Value) (x7 : Value) (j8 : Int) (x13 : Int) (x14 : Int) (x17 : Int) (x18 : Int) (N : (Value × Value × Value × Int × Int × Int × Int) → Int → World → Prop) (D2 : (Value × Value × Value × Int × Int × Unit) → World → Prop) (w : World) : Prop :=
  (((decide (x18 < x17)) = true → (callV Try.prog of2 #[(.int .i64 x18), (.int .i64 j8)] w (.one (.int .i64)) fun (x26_10 : Int) w_9 => (Fc Try.prog 114 #[x7, (.int .i64 x18), (.int .i64 j8), (.int .i64 x26_10)] w_9 .unit fun (x27_12 : Unit) w_11 => N ((of2 : Value), (x6 : Value), (x7 : Value), j8, x13, x14, x17) (IntKind.i64.wrap (x18 + (1 : Int))) w_11))) ∧ ((decide (x18 < x17)) = false → D2 ((of2 : Value), (x6 : Value), (x7 : Value), x13, x14, ()) w))

abbrev L_impl_made_6_e2 : List Slot := [.junk, .junk, .k .any, .junk, .junk, .junk, .k .any, .k .any, .junk, .junk, .junk, .junk, .junk, .k (.int .i64), .k (.int .i64), .junk, .junk, .junk, .junk, .junk, .junk, .junk, .junk, .junk, .junk, .junk, .junk, .junk, .junk, .junk, .junk]

abbrev L_impl_made_6_sp : List Slot := [.junk, .junk, .k .any, .junk, .junk, .junk, .k .any, .k .any, .k (.int .i64), .junk, .junk, .junk, .junk, .k (.int .i64), .k (.int .i64), .junk, .junk, .k (.int .i64), .k (.int .i64), .junk, .junk, .junk, .junk, .junk, .junk, .junk, .junk, .junk, .junk, .junk, .junk]
abbrev L_impl_made_6_ex : List (Nat × List Slot) := [(2, L_impl_made_6_e2)]
abbrev L_impl_made_6_rt : List Slot := [.junk, .junk, .junk, .junk, .junk, .junk, .junk, .junk, .junk, .junk, .junk, .junk, .junk, .junk, .junk, .junk, .junk, .junk, .junk, .junk, .junk, .junk, .junk, .junk, .junk, .junk, .junk, .junk, .junk, .junk, .junk]

def L_impl_made_6_b (Φ : Post) (u : (Value × Value × Value × Int × Int × Int × Int)) (N : (Value × Value × Value × Int × Int × Int × Int) → Int → World → Prop) (s : Int) (w : World) : Prop :=
  B_impl_made_6 u.1 u.2.1 u.2.2.1 u.2.2.2.1 u.2.2.2.2.1 u.2.2.2.2.2.1 u.2.2.2.2.2.2 s N (fun v w => ∀ j : Nat → Value, Φ (.exit 2) (mkT j 0 L_impl_made_6_e2 v) w) w

theorem L_impl_made_6_eq (j : Nat → Value) (u : (Value × Value × Value × Int × Int × Int × Int)) (s : Int) (N : (Value × Value × Value × Int × Int × Int × Int) → Int → World → Prop) (D2 : (Value × Value × Value × Int × Int × Unit) → World → Prop) (R : (Unit) → World → Prop) (w : World) :
    W Try.prog ty (fun _ _ _ _ => False) (loopAt Try.f87 6) (loopPost L_impl_made_6_sp [(2, (⟨L_impl_made_6_e2, D2⟩ : Door))] ⟨L_impl_made_6_rt, R⟩ (fun v w => N ((fun v => (v.1, v.2.1, v.2.2.1, v.2.2.2.1, v.2.2.2.2.1, v.2.2.2.2.2.1, v.2.2.2.2.2.2.1)) v) ((fun v => v.2.2.2.2.2.2.2.1) v) w)) (mkT j 0 L_impl_made_6_sp ((fun u s => (u.1, u.2.1, u.2.2.1, u.2.2.2.1, u.2.2.2.2.1, u.2.2.2.2.2.1, u.2.2.2.2.2.2, s, ())) u s)) w =
    B_impl_made_6 u.1 u.2.1 u.2.2.1 u.2.2.2.1 u.2.2.2.2.1 u.2.2.2.2.2.1 u.2.2.2.2.2.2 s N D2 w := by
  kernel_rfl

def O_impl_made_1 : Code → Post → List SV → World → Prop :=
  orc 6 (loopAt Try.f87 6) L_impl_made_6_sp (fun Φ fr w => LOOP (U := (Value × Value × Value × Int × Int × Int × Int)) (S := Int) ((fun v => (v.1, v.2.1, v.2.2.1, v.2.2.2.1, v.2.2.2.2.1, v.2.2.2.2.2.1, v.2.2.2.2.2.2.1)) (extT L_impl_made_6_sp fr)) (L_impl_made_6_b Φ ((fun v => (v.1, v.2.1, v.2.2.1, v.2.2.2.1, v.2.2.2.2.1, v.2.2.2.2.2.1, v.2.2.2.2.2.2.1)) (extT L_impl_made_6_sp fr))) ((fun v => v.2.2.2.2.2.2.2.1) (extT L_impl_made_6_sp fr)) w) (fun _ _ _ _ => False)

theorem O_impl_made_1_ok : Sound Try.prog O_impl_made_1 :=
  orc_ok (sound_none _) fun Φ fr w hs h => loop_ok (ty := ty) follows (sound_none _) L_impl_made_6_sp (fun v => (v.1, v.2.1, v.2.2.1, v.2.2.2.1, v.2.2.2.2.1, v.2.2.2.2.2.1, v.2.2.2.2.2.2.1)) (fun v => v.2.2.2.2.2.2.2.1) (fun u s => (u.1, u.2.1, u.2.2.1, u.2.2.2.1, u.2.2.2.2.1, u.2.2.2.2.2.1, u.2.2.2.2.2.2, s, ())) (fun _ => rfl) L_impl_made_6_ex L_impl_made_6_rt (body := L_impl_made_6_b Φ) (fun j u s w N hb => by
    have e := L_impl_made_6_eq j u s N (doorOf Φ (.exit 2) L_impl_made_6_e2).D (doorOf Φ .ret L_impl_made_6_rt).D w
    exact Eq.mpr e hb) hs h

def B_impl_made_3 (of2 : Value) (x6 : Value) (x7 : Value) (x13 : Int) (x14 : Int) (N : (Value × Value × Value × Int) → Int → World → Prop) (D0 : (Value × Value × Unit) → World → Prop) (w : World) : Prop :=
  (((decide (x14 < x13)) = true → (At (loopAt Try.f87 6) (loopAt Try.f87 6) (LOOP (U := (Value × Value × Value × Int × Int × Int × Int)) (S := Int) ((of2 : Value), (x6 : Value), (x7 : Value), x14, x13, x14, x14) (fun N_16 s_17 w_18 => B_impl_made_6 (of2 : Value) (x6 : Value) (x7 : Value) x14 x13 x14 x14 s_17 N_16 (fun (v_13 : (Value × Value × Value × Int × Int × Unit)) w_14 => ∀ _j_15 : Nat → Value, N ((v_13.1 : Value), (v_13.2.1 : Value), (v_13.2.2.1 : Value), v_13.2.2.2.1) (IntKind.i64.wrap (v_13.2.2.2.2.1 + (1 : Int))) w_14) w_18) (0 : Int) w))) ∧ ((decide (x14 < x13)) = false → D0 ((x6 : Value), (x7 : Value), ()) w))

abbrev L_impl_made_3_e0 : List Slot := [.junk, .junk, .junk, .junk, .junk, .junk, .k .any, .k .any, .junk, .junk, .junk, .junk, .junk, .junk, .junk, .junk, .junk, .junk, .junk, .junk, .junk, .junk, .junk, .junk, .junk, .junk, .junk, .junk, .junk, .junk, .junk]

abbrev L_impl_made_3_sp : List Slot := [.junk, .junk, .k .any, .junk, .junk, .junk, .k .any, .k .any, .junk, .junk, .junk, .junk, .junk, .k (.int .i64), .k (.int .i64), .junk, .junk, .junk, .junk, .junk, .junk, .junk, .junk, .junk, .junk, .junk, .junk, .junk, .junk, .junk, .junk]
abbrev L_impl_made_3_ex : List (Nat × List Slot) := [(0, L_impl_made_3_e0)]
abbrev L_impl_made_3_rt : List Slot := [.junk, .junk, .junk, .junk, .junk, .junk, .junk, .junk, .junk, .junk, .junk, .junk, .junk, .junk, .junk, .junk, .junk, .junk, .junk, .junk, .junk, .junk, .junk, .junk, .junk, .junk, .junk, .junk, .junk, .junk, .junk]

def L_impl_made_3_b (Φ : Post) (u : (Value × Value × Value × Int)) (N : (Value × Value × Value × Int) → Int → World → Prop) (s : Int) (w : World) : Prop :=
  B_impl_made_3 u.1 u.2.1 u.2.2.1 u.2.2.2 s N (fun v w => ∀ j : Nat → Value, Φ (.exit 0) (mkT j 0 L_impl_made_3_e0 v) w) w

theorem L_impl_made_3_eq (j : Nat → Value) (u : (Value × Value × Value × Int)) (s : Int) (N : (Value × Value × Value × Int) → Int → World → Prop) (D0 : (Value × Value × Unit) → World → Prop) (R : (Unit) → World → Prop) (w : World) :
    W Try.prog ty O_impl_made_1 (loopAt Try.f87 3) (loopPost L_impl_made_3_sp [(0, (⟨L_impl_made_3_e0, D0⟩ : Door))] ⟨L_impl_made_3_rt, R⟩ (fun v w => N ((fun v => (v.1, v.2.1, v.2.2.1, v.2.2.2.1)) v) ((fun v => v.2.2.2.2.1) v) w)) (mkT j 0 L_impl_made_3_sp ((fun u s => (u.1, u.2.1, u.2.2.1, u.2.2.2, s, ())) u s)) w =
    B_impl_made_3 u.1 u.2.1 u.2.2.1 u.2.2.2 s N D0 w := by
  kernel_rfl

def O_impl_made_2 : Code → Post → List SV → World → Prop :=
  orc 3 (loopAt Try.f87 3) L_impl_made_3_sp (fun Φ fr w => LOOP (U := (Value × Value × Value × Int)) (S := Int) ((fun v => (v.1, v.2.1, v.2.2.1, v.2.2.2.1)) (extT L_impl_made_3_sp fr)) (L_impl_made_3_b Φ ((fun v => (v.1, v.2.1, v.2.2.1, v.2.2.2.1)) (extT L_impl_made_3_sp fr))) ((fun v => v.2.2.2.2.1) (extT L_impl_made_3_sp fr)) w) O_impl_made_1

theorem O_impl_made_2_ok : Sound Try.prog O_impl_made_2 :=
  orc_ok O_impl_made_1_ok fun Φ fr w hs h => loop_ok (ty := ty) follows O_impl_made_1_ok L_impl_made_3_sp (fun v => (v.1, v.2.1, v.2.2.1, v.2.2.2.1)) (fun v => v.2.2.2.2.1) (fun u s => (u.1, u.2.1, u.2.2.1, u.2.2.2, s, ())) (fun _ => rfl) L_impl_made_3_ex L_impl_made_3_rt (body := L_impl_made_3_b Φ) (fun j u s w N hb => by
    have e := L_impl_made_3_eq j u s N (doorOf Φ (.exit 0) L_impl_made_3_e0).D (doorOf Φ .ret L_impl_made_3_rt).D w
    exact Eq.mpr e hb) hs h

def V_impl_made (n0 : Int) (k1 : Int) (of2 : Value) (w : World) (K : Value → World → Prop) : Prop :=
  (Pr Try.prog (Instr.alloc 25 true (.tuple #[])) w (.one .any) fun (x6_2 : Value) w_1 => (Pr Try.prog (Instr.build 25 #[(0, (.int .i64 n0)), (1, (.int .i64 k1))]) w_1 (.one .any) fun (x12_4 : Value) w_3 => (Pr Try.prog (Instr.alloc 25 true (.tuple #[])) w_3 (.one .any) fun (x7_6 : Value) w_5 => (PrU Try.prog (Instr.storeAt 25 x7_6 x12_4) w_5 fun w_7 => (At (loopAt Try.f87 3) (loopAt Try.f87 3) (LOOP (U := (Value × Value × Value × Int)) (S := Int) ((of2 : Value), (x6_2 : Value), (x7_6 : Value), n0) (fun N_26 s_27 w_28 => B_impl_made_3 (of2 : Value) (x6_2 : Value) (x7_6 : Value) n0 s_27 N_26 (fun (v_19 : (Value × Value × Unit)) w_20 => ∀ _j_21 : Nat → Value, (QSub Try.prog (Instr.loadAt 25 v_19.2.1) w_20 .any fun (x30_22 : Value) => (PrU Try.prog (Instr.storeAt 25 v_19.1 x30_22) w_20 fun w_23 => (QSub Try.prog (Instr.loadAt 25 v_19.1) w_23 .any fun (r_25 : Value) => K (r_25 : Value) w_23)))) w_28) (0 : Int) w_7))))))

theorem eq_impl_made (n0 : Int) (k1 : Int) (of2 : Value) (w : World) (K : Value → World → Prop) :
    W Try.prog ty O_impl_made_2 (bodyOf Try.f87) (fnPost Try.prog Try.f87.results.toList (.one .any) K) (frame0 [(.int .i64 n0), (.int .i64 k1), of2] 31) w = V_impl_made n0 k1 of2 w K := by
  kernel_rfl

theorem body_impl_made : Try.f87.body = some (bodyOf Try.f87) := by kernel_rfl
theorem name_impl_made : (Try.f87.name == "runtime.NumGoroutine") = false := by kernel_rfl

theorem walk_impl_made (n0 : Int) (k1 : Int) (of2 : Value) {w : World} {K : Value → World → Prop} (h : V_impl_made n0 k1 of2 w K) : Fc Try.prog 87 #[(.int .i64 n0), (.int .i64 k1), of2] w (.one .any) K :=
  fn_ok follows O_impl_made_2_ok Try.func87 name_impl_made body_impl_made Try.ntmps87 [(.int .i64 n0), (.int .i64 k1), of2] (Eq.mpr (eq_impl_made n0 k1 of2 w K) h)

-- uses S5Made
theorem c_impl_made {n k : Int} (f : Nat → Int) {of : Value} {w : World} {K : Value → World → Prop} (n0 : 0 ≤ n) (n1 : n ≤ 17) (hk : I64 k) (hf : ∀ e, e < (edgesOf n).toNat → 0 ≤ f e ∧ f e < 256)
    (hof : ∀ i j : Int, 0 ≤ i → i < j → j < n → ∀ (w' : World) (K' : Int → World → Prop), Below w.heap.size w w' → (∀ w'', Below w'.heap.size w' w'' → K' (f (enum i j).toNat) w'') → callV Try.prog of #[.int .i64 i, .int .i64 j] w' (.one (.int .i64)) K')
    (hK : ∀ w', Below w.heap.size w w' → K (colF n k f).val w') : Fc Try.prog F_impl_made #[.int .i64 n, .int .i64 k, of] w (.one .any) K := by
  refine walk_impl_made _ _ _ (c_alloc fun p w1 hb1 hv1 => build2 (allocA yC fun b w2 n2 => ?_))
  have e2 := n2.here; have s2 := n2.size; have hs1 := hb1.size
  have hne := hv1.ne (Nat.le_of_eq e2.symm)
  refine stA0 yC n2.at_ (by simp [Col.cells, zC, zA]) (by simp [Col.cells, zC, zA]) (Col.cells_one _) fun w3 m3 s3 h3 => ?_
  have hv3 := (hv1.keep n2.below).mod m3 hne
  have hb3 : Below w.heap.size w w3 := (hb1.trans (n2.below.mono hs1)).trans (m3.below (by omega) (by simp; omega))
  refine lp (fun j w' => 0 ≤ j ∧ j ≤ n ∧ Below w.heap.size w w' ∧ CVar w.heap.size w' p ∧ BlkC w' b ⟨n, k, esF f (edgesOf j).toNat⟩) (fun j _ => (n - j).toNat)
    ⟨by omega, by omega, hb3, hv3, by rw [show (edgesOf 0).toNat = 0 from by decide, esF_0]; exact h3⟩ ?_
  rintro j w4 N ⟨j0, j1, hb4, hv4, h4⟩ hN
  unfold B_impl_made_3
  refine ⟨fun hlt => ?_, fun hge => ?_⟩
  · have hlt := dec_t hlt
    have ej := edges_bd j0 (by omega)
    refine lp (fun i w' => 0 ≤ i ∧ i ≤ j ∧ Below w.heap.size w w' ∧ CVar w.heap.size w' p ∧ BlkC w' b ⟨n, k, esF f (edgesOf j + i).toNat⟩) (fun i _ => (j - i).toNat)
      ⟨by omega, by omega, hb4, hv4, by rw [Int.add_zero]; exact h4⟩ ?_
    rintro i w5 N' ⟨i0, i1, hb5, hv5, h5⟩ hN'
    unfold B_impl_made_6
    refine ⟨fun hlt2 => ?_, fun hge2 => ?_⟩
    · have hlt2 := dec_t hlt2
      have hen := enum_lt i0 hlt2 hlt n1
      have hen2 := edges_bd n0 n1
      have hff := hf (enum i j).toNat (by omega)
      refine hof i j i0 hlt2 hlt w5 _ hb5 fun w6 hb6 => ?_
      have h6 : BlkC w6 b ⟨n, k, esF f (edgesOf j + i).toNat⟩ := below_at hb6 h5 (at_lt h5)
      refine c_impl_Colouring_put h6 (esF_len _ _) i0 (by omega) j0 (by omega) (by omega) hff.1 hff.2 fun w7 m7 h7 => ?_
      rw [wrap_small (by omega) (by omega)]
      have hs5 := hb5.size; have hs6 := hb6.size; have hlb := at_lt h5
      refine hN' _ _ ⟨by omega, by omega, (hb5.trans (hb6.mono hs5)).trans (m7.below (by omega) (by simp; omega)), (hv5.keep hb6).mod m7 hne, ?_⟩ (by omega)
      rw [num_of hlt2] at h7
      have he : (enum i j).toNat = (edgesOf j + i).toNat := rfl
      rw [he, esF_set f (by rw [← he]; omega)] at h7
      rwa [show (edgesOf j + (i + 1)).toNat = (edgesOf j + i).toNat + 1 from by omega]
    · have hge2 := dec_f hge2
      have : i = j := by omega
      subst this
      intro _
      show N _ (IntKind.i64.wrap (i + 1)) w5
      rw [wrap_small (by omega) (by omega)]
      refine hN _ _ ⟨by omega, by omega, hb5, hv5, ?_⟩ (by omega)
      rw [edgesOf_succ]; exact h5
  · have hge := dec_f hge
    have : j = n := by omega
    subst this
    intro _
    have hok : (colF j k f).Ok := colF_ok ⟨by omega, by omega⟩ hk hf
    have hs4 := hb4.size
    refine col_all hok (blk_row h4) (c_ret hok hv4 hs4 fun w5 hb5 => hK w5 (hb4.trans hb5))

end Go.Proofs.Ytkadckhealbdaaa

/- The reading of impl_circularOf, and its contract. No condition. -/
namespace Go.Proofs.Ytkadckhealbdaaa
open Go Go.RowKit Eng Mem
set_option linter.unusedVariables false
set_option maxRecDepth 100000
def V_impl_circularOf (n0 : Int) (k1 : Int) (list2 : Value) (w : World) (K : Value → World → Prop) : Prop :=
  (Pr Try.prog (Instr.box 2 (.int .i64 n0)) w (.one .any) fun (n3_2 : Value) w_1 => (Pr Try.prog (Instr.box 31 list2) w_1 (.one .any) fun (list5_4 : Value) w_3 => (Pr Try.prog (Instr.alloc 25 true (.tuple #[])) w_3 (.one .any) fun (x6_6 : Value) w_5 => (QSub Try.prog (Instr.loadAt 2 n3_2) w_5 (.int .i64) fun (x7_7 : Int) => (Fc Try.prog 87 #[(.int .i64 x7_7), (.int .i64 k1), (.func (.func 124) #[] #[list5_4, n3_2])] w_5 (.one .any) fun (x10_9 : Value) w_8 => (PrU Try.prog (Instr.storeAt 25 x6_6 x10_9) w_8 fun w_10 => (QSub Try.prog (Instr.loadAt 25 x6_6) w_10 .any fun (r_12 : Value) => K (r_12 : Value) w_10)))))))

theorem eq_impl_circularOf (n0 : Int) (k1 : Int) (list2 : Value) (w : World) (K : Value → World → Prop) :
    W Try.prog ty (fun _ _ _ _ => False) (bodyOf Try.f103) (fnPost Try.prog Try.f103.results.toList (.one .any) K) (frame0 [(.int .i64 n0), (.int .i64 k1), list2] 11) w = V_impl_circularOf n0 k1 list2 w K := by
  kernel_rfl

theorem body_impl_circularOf : Try.f103.body = some (bodyOf Try.f103) := by kernel_rfl
theorem name_impl_circularOf : (Try.f103.name == "runtime.NumGoroutine") = false := by kernel_rfl

theorem walk_impl_circularOf (n0 : Int) (k1 : Int) (list2 : Value) {w : World} {K : Value → World → Prop} (h : V_impl_circularOf n0 k1 list2 w K) : Fc Try.prog 103 #[(.int .i64 n0), (.int .i64 k1), list2] w (.one .any) K :=
  fn_ok follows (sound_none _) Try.func103 name_impl_circularOf body_impl_circularOf Try.ntmps103 [(.int .i64 n0), (.int .i64 k1), list2] (Eq.mpr (eq_impl_circularOf n0 k1 list2 w K) h)

-- uses S7Circ
theorem c_impl_circularOf {n k : Int} {a : Value} {l : List Int} {w : World} {K : Value → World → Prop} (n0 : 0 ≤ n) (n1 : n ≤ 17) (hk : I64 k) (h : SlI w a l) (hl : n / 2 ≤ (l.length : Int)) (hg : ∀ i j : Int, 0 ≤ i → i < j → j < n → 0 ≤ circG l n i j ∧ circG l n i j < 256)
    (hK : ∀ w', Below w.heap.size w w' → K (colG n k (circG l n)).val w') : Fc Try.prog F_impl_circularOf #[.int .i64 n, .int .i64 k, a] w (.one .any) K := by
  have hok : (colG n k (circG l n)).Ok := colG_ok n0 n1 hk hg
  refine walk_impl_circularOf _ _ _ (box [.int .i64 n] rfl fun b1 w1 m1 => box [a] (by rw [slI_cells h]) fun b2 w2 m2 => c_alloc fun p w3 hb3 hv => ?_)
  have hb2 := m1.below.trans (m2.below.mono m1.below.size)
  have hb := hb2.trans (hb3.mono hb2.size)
  have cn : Cell w3 (ptr b1 0) (.int .i64 n) := ((row_all (cs := [_]) m1.at_).keep m2.below).keep hb3
  have ca : Cell w3 (ptr b2 0) a := (row_all (cs := [_]) m2.at_).keep hb3
  have hs2 := hb2.size; have hs3 := hb3.size; have hs := hb.size
  refine ld (k := .int .i64) yI cn (c_impl_made (fun e => circG l n (pi e) (pj e)) n0 n1 hk (fun e he => ?_) (fun i j i0 i1 i2 w' K' hb' hk' => cv rfl ?_) fun w4 hb4 => ?_)
  · have := pair_lt n0 n1 he
    exact hg _ _ this.1 this.2.1 this.2.2
  · have hp := pair_enum i0 i1 (by omega)
    simp only [hp.1, hp.2] at hk'
    exact c_impl_circularOf_1 (ca.keep hb') (cn.keep hb') ((h.keep hb).keep hb') i0 i1 i2 n1 hl hk'
  · have hs4 := hb4.size
    exact c_ret hok (hv.keep hb4) (by omega) fun w5 hb5 => hK w5 ((hb.trans (hb4.mono hs)).trans (hb5.mono hs2))

end Go.Proofs.Ytkadckhealbdaaa

/- The reading of impl_circulars, and its contract. No condition. -/
namespace Go.Proofs.Ytkadckhealbdaaa
open Go Go.RowKit Eng Mem
set_option linter.unusedVariables false
set_option maxRecDepth 100000
def B_impl_circulars_7 (n0 : Int) (sizes1 : Value) (out5 : Value) (bits6 : Int) (x13 : Int) (x14 : Int) (list7 : Value) (i8 : Int) (N : (Int × Value × Value × Int × Int × Int) → (Value × Int) → World → Prop) (D2 : (Int × Value × Value × Value × Int × Int × Unit) → World → Prop) (w : World) : Prop :=
  (((decide (i8 ≥ (0 : Int))) = true → (0 ≤ i8 ∧ (Pr Try.prog (Instr.buildSlice 31 1 #[(0, (.int .i64 (IntKind.i64.wrap ((BitVec.toNat (BitVec.ofInt (IntKind.bits .i64) (Int.fdiv bits6 (2 ^ min (Int.toNat i8) 64)) &&& BitVec.ofInt (IntKind.bits .i64) (1 : Int)) : Nat)))))]) w (.one .any) fun (x30_6 : Value) w_5 => (Pr Try.prog (Builtin.append_ #[31, 31] 31 #[list7, x30_6]) w_5 (.one .any) fun (x31_8 : Value) w_7 => N (n0, (sizes1 : Value), (out5 : Value), bits6, x13, x14) ((x31_8 : Value), (IntKind.i64.wrap (i8 - (1 : Int)))) w_7)))) ∧ ((decide (i8 ≥ (0 : Int))) = false → D2 (n0, (sizes1 : Value), (out5 : Value), (list7 : Value), x13, x14, ()) w))

abbrev L_impl_circulars_7_e2 : List Slot := [.k (.int .i64), .k .any, .junk, .junk, .junk, .k .any, .junk, .k .any, .junk, .junk, .junk, .junk, .junk, .k (.int .i64), .k (.int .i64), .junk, .junk, .junk, .junk, .junk, .junk, .junk, .junk, .junk, .junk, .junk, .junk, .junk, .junk, .junk, .junk, .junk, .junk, .junk, .junk, .junk, .junk, .junk, .junk, .junk, .junk, .junk, .junk]

abbrev L_impl_circulars_7_sp : List Slot := [.k (.int .i64), .k .any, .junk, .junk, .junk, .k .any, .k (.int .i64), .k .any, .k (.int .i64), .junk, .junk, .junk, .junk, .k (.int .i64), .k (.int .i64), .junk, .junk, .junk, .junk, .junk, .junk, .junk, .junk, .junk, .junk, .junk, .junk, .junk, .junk, .junk, .junk, .junk, .junk, .junk, .junk, .junk, .junk, .junk, .junk, .junk, .junk, .junk, .junk]
abbrev L_impl_circulars_7_ex : List (Nat × List Slot) := [(2, L_impl_circulars_7_e2)]
abbrev L_impl_circulars_7_rt : List Slot := [.junk, .junk, .junk, .junk, .junk, .junk, .junk, .junk, .junk, .junk, .junk, .junk, .junk, .junk, .junk, .junk, .junk, .junk, .junk, .junk, .junk, .junk, .junk, .junk, .junk, .junk, .junk, .junk, .junk, .junk, .junk, .junk, .junk, .junk, .junk, .junk, .junk, .junk, .junk, .junk, .junk, .junk, .junk]

def L_impl_circulars_7_b (Φ : Post) (u : (Int × Value × Value × Int × Int × Int)) (N : (Int × Value × Value × Int × Int × Int) → (Value × Int) → World → Prop) (s : (Value × Int)) (w : World) : Prop :=
  B_impl_circulars_7 u.1 u.2.1 u.2.2.1 u.2.2.2.1 u.2.2.2.2.1 u.2.2.2.2.2 s.1 s.2 N (fun v w => ∀ j : Nat → Value, Φ (.exit 2) (mkT j 0 L_impl_circulars_7_e2 v) w) w

theorem L_impl_circulars_7_eq (j : Nat → Value) (u : (Int × Value × Value × Int × Int × Int)) (s : (Value × Int)) (N : (Int × Value × Value × Int × Int × Int) → (Value × Int) → World → Prop) (D2 : (Int × Value × Value × Value × Int × Int × Unit) → World → Prop) (R : (Unit) → World → Prop) (w : World) :
    W Try.prog ty (fun _ _ _ _ => False) (loopAt Try.f73 7) (loopPost L_impl_circulars_7_sp [(2, (⟨L_impl_circulars_7_e2, D2⟩ : Door))] ⟨L_impl_circulars_7_rt, R⟩ (fun v w => N ((fun v => (v.1, v.2.1, v.2.2.1, v.2.2.2.1, v.2.2.2.2.2.2.1, v.2.2.2.2.2.2.2.1)) v) ((fun v => (v.2.2.2.2.1, v.2.2.2.2.2.1)) v) w)) (mkT j 0 L_impl_circulars_7_sp ((fun u s => (u.1, u.2.1, u.2.2.1, u.2.2.2.1, s.1, s.2, u.2.2.2.2.1, u.2.2.2.2.2, ())) u s)) w =
    B_impl_circulars_7 u.1 u.2.1 u.2.2.1 u.2.2.2.1 u.2.2.2.2.1 u.2.2.2.2.2 s.1 s.2 N D2 w := by
  kernel_rfl

def O_impl_circulars_1 : Code → Post → List SV → World → Prop :=
  orc 7 (loopAt Try.f73 7) L_impl_circulars_7_sp (fun Φ fr w => LOOP (U := (Int × Value × Value × Int × Int × Int)) (S := (Value × Int)) ((fun v => (v.1, v.2.1, v.2.2.1, v.2.2.2.1, v.2.2.2.2.2.2.1, v.2.2.2.2.2.2.2.1)) (extT L_impl_circulars_7_sp fr)) (L_impl_circulars_7_b Φ ((fun v => (v.1, v.2.1, v.2.2.1, v.2.2.2.1, v.2.2.2.2.2.2.1, v.2.2.2.2.2.2.2.1)) (extT L_impl_circulars_7_sp fr))) ((fun v => (v.2.2.2.2.1, v.2.2.2.2.2.1)) (extT L_impl_circulars_7_sp fr)) w) (fun _ _ _ _ => False)

theorem O_impl_circulars_1_ok : Sound Try.prog O_impl_circulars_1 :=
  orc_ok (sound_none _) fun Φ fr w hs h => loop_ok (ty := ty) follows (sound_none _) L_impl_circulars_7_sp (fun v => (v.1, v.2.1, v.2.2.1, v.2.2.2.1, v.2.2.2.2.2.2.1, v.2.2.2.2.2.2.2.1)) (fun v => (v.2.2.2.2.1, v.2.2.2.2.2.1)) (fun u s => (u.1, u.2.1, u.2.2.1, u.2.2.2.1, s.1, s.2, u.2.2.2.2.1, u.2.2.2.2.2, ())) (fun _ => rfl) L_impl_circulars_7_ex L_impl_circulars_7_rt (body := L_impl_circulars_7_b Φ) (fun j u s w N hb => by
    have e := L_impl_circulars_7_eq j u s N (doorOf Φ (.exit 2) L_impl_circulars_7_e2).D (doorOf Φ .ret L_impl_circulars_7_rt).D w
    exact Eq.mpr e hb) hs h

def B_impl_circulars_3 (n0 : Int) (sizes1 : Value) (x13 : Int) (out5 : Value) (x14 : Int) (N : (Int × Value × Int) → (Value × Int) → World → Prop) (D0 : (Value × Unit) → World → Prop) (w : World) : Prop :=
  (((decide (x14 < x13)) = true → (Pr Try.prog (Instr.buildSlice 31 0 #[]) w (.one .any) fun (x17_4 : Value) w_3 => ((2 : Int) ≠ 0 ∧ (At (loopAt Try.f73 7) (loopAt Try.f73 7) (LOOP (U := (Int × Value × Value × Int × Int × Int)) (S := (Value × Int)) (n0, (sizes1 : Value), (out5 : Value), x14, x13, x14) (fun N_25 s_26 w_27 => B_impl_circulars_7 n0 (sizes1 : Value) (out5 : Value) x14 x13 x14 s_26.1 s_26.2 N_25 (fun (v_9 : (Int × Value × Value × Value × Int × Int × Unit)) w_10 => ∀ _j_11 : Nat → Value, (Fc Try.prog 103 #[(.int .i64 v_9.1), (.int .i64 (2 : Int)), v_9.2.2.2.1] w_10 (.one .any) fun (x34_13 : Value) w_12 => (Pr Try.prog (Instr.alloc 25 true (.tuple #[])) w_12 (.one .any) fun (x9_15 : Value) w_14 => (PrU Try.prog (Instr.storeAt 25 x9_15 x34_13) w_14 fun w_16 => (Fc Try.prog 104 #[x9_15, v_9.2.1] w_16 (.one .bool) fun (x36_19 : Bool) w_18 => ((x36_19 = true → (QSub Try.prog (Instr.loadAt 25 x9_15) w_18 .any fun (x38_20 : Value) => (Pr Try.prog (Instr.buildSlice 80 1 #[(0, x38_20)]) w_18 (.one .any) fun (x39_22 : Value) w_21 => (Pr Try.prog (Builtin.append_ #[80, 80] 80 #[v_9.2.2.1, x39_22]) w_21 (.one .any) fun (x40_24 : Value) w_23 => N (v_9.1, (v_9.2.1 : Value), v_9.2.2.2.2.1) ((x40_24 : Value), (IntKind.i64.wrap (v_9.2.2.2.2.2.1 + (1 : Int)))) w_23)))) ∧ (x36_19 = false → N (v_9.1, (v_9.2.1 : Value), v_9.2.2.2.2.1) ((v_9.2.2.1 : Value), (IntKind.i64.wrap (v_9.2.2.2.2.2.1 + (1 : Int)))) w_18))))))) w_27) ((x17_4 : Value), (IntKind.i64.wrap ((IntKind.i64.wrap (Int.tdiv n0 (2 : Int))) - (1 : Int)))) w_3))))) ∧ ((decide (x14 < x13)) = false → D0 ((out5 : Value), ()) w))

abbrev L_impl_circulars_3_e0 : List Slot := [.junk, .junk, .junk, .junk, .junk, .k .any, .junk, .junk, .junk, .junk, .junk, .junk, .junk, .junk, .junk, .junk, .junk, .junk, .junk, .junk, .junk, .junk, .junk, .junk, .junk, .junk, .junk, .junk, .junk, .junk, .junk, .junk, .junk, .junk, .junk, .junk, .junk, .junk, .junk, .junk, .junk, .junk, .junk]

abbrev L_impl_circulars_3_sp : List Slot := [.k (.int .i64), .k .any, .junk, .junk, .junk, .k .any, .junk, .junk, .junk, .junk, .junk, .junk, .junk, .k (.int .i64), .k (.int .i64), .junk, .junk, .junk, .junk, .junk, .junk, .junk, .junk, .junk, .junk, .junk, .junk, .junk, .junk, .junk, .junk, .junk, .junk, .junk, .junk, .junk, .junk, .junk, .junk, .junk, .junk, .junk, .junk]
abbrev L_impl_circulars_3_ex : List (Nat × List Slot) := [(0, L_impl_circulars_3_e0)]
abbrev L_impl_circulars_3_rt : List Slot := [.junk, .junk, .junk, .junk, .junk, .junk, .junk, .junk, .junk, .junk, .junk, .junk, .junk, .junk, .junk, .junk, .junk, .junk, .junk, .junk, .junk, .junk, .junk, .junk, .junk, .junk, .junk, .junk, .junk, .junk, .junk, .junk, .junk, .junk, .junk, .junk, .junk, .junk, .junk, .junk, .junk, .junk, .junk]

def L_impl_circulars_3_b (Φ : Post) (u : (Int × Value × Int)) (N : (Int × Value × Int) → (Value × Int) → World → Prop) (s : (Value × Int)) (w : World) : Prop :=
  B_impl_circulars_3 u.1 u.2.1 u.2.2 s.1 s.2 N (fun v w => ∀ j : Nat → Value, Φ (.exit 0) (mkT j 0 L_impl_circulars_3_e0 v) w) w

theorem L_impl_circulars_3_eq (j : Nat → Value) (u : (Int × Value × Int)) (s : (Value × Int)) (N : (Int × Value × Int) → (Value × Int) → World → Prop) (D0 : (Value × Unit) → World → Prop) (R : (Unit) → World → Prop) (w : World) :
    W Try.prog ty O_impl_circulars_1 (loopAt Try.f73 3) (loopPost L_impl_circulars_3_sp [(0, (⟨L_impl_circulars_3_e0, D0⟩ : Door))] ⟨L_impl_circulars_3_rt, R⟩ (fun v w => N ((fun v => (v.1, v.2.1, v.2.2.2.1)) v) ((fun v => (v.2.2.1, v.2.2.2.2.1)) v) w)) (mkT j 0 L_impl_circulars_3_sp ((fun u s => (u.1, u.2.1, s.1, u.2.2, s.2, ())) u s)) w =
    B_impl_circulars_3 u.1 u.2.1 u.2.2 s.1 s.2 N D0 w := by
  kernel_rfl

def O_impl_circulars_2 : Code → Post → List SV → World → Prop :=
  orc 3 (loopAt Try.f73 3) L_impl_circulars_3_sp (fun Φ fr w => LOOP (U := (Int × Value × Int)) (S := (Value × Int)) ((fun v => (v.1, v.2.1, v.2.2.2.1)) (extT L_impl_circulars_3_sp fr)) (L_impl_circulars_3_b Φ ((fun v => (v.1, v.2.1, v.2.2.2.1)) (extT L_impl_circulars_3_sp fr))) ((fun v => (v.2.2.1, v.2.2.2.2.1)) (extT L_impl_circulars_3_sp fr)) w) O_impl_circulars_1

theorem O_impl_circulars_2_ok : Sound Try.prog O_impl_circulars_2 :=
  orc_ok O_impl_circulars_1_ok fun Φ fr w hs h => loop_ok (ty := ty) follows O_impl_circulars_1_ok L_impl_circulars_3_sp (fun v => (v.1, v.2.1, v.2.2.2.1)) (fun v => (v.2.2.1, v.2.2.2.2.1)) (fun u s => (u.1, u.2.1, s.1, u.2.2, s.2, ())) (fun _ => rfl) L_impl_circulars_3_ex L_impl_circulars_3_rt (body := L_impl_circulars_3_b Φ) (fun j u s w N hb => by
    have e := L_impl_circulars_3_eq j u s N (doorOf Φ (.exit 0) L_impl_circulars_3_e0).D (doorOf Φ .ret L_impl_circulars_3_rt).D w
    exact Eq.mpr e hb) hs h

def V_impl_circulars (n0 : Int) (sizes1 : Value) (w : World) (K : Value → World → Prop) : Prop :=
  (Pr Try.prog (Instr.buildSlice 80 0 #[]) w (.one .any) fun (x10_2 : Value) w_1 => ((2 : Int) ≠ 0 ∧ (0 ≤ (IntKind.i64.wrap (Int.tdiv n0 (2 : Int))) ∧ (At (loopAt Try.f73 3) (loopAt Try.f73 3) (LOOP (U := (Int × Value × Int)) (S := (Value × Int)) (n0, (sizes1 : Value), (IntKind.i64.wrap ((1 : Int) * 2 ^ min (Int.toNat (IntKind.i64.wrap (Int.tdiv n0 (2 : Int)))) 64))) (fun N_31 s_32 w_33 => B_impl_circulars_3 n0 (sizes1 : Value) (IntKind.i64.wrap ((1 : Int) * 2 ^ min (Int.toNat (IntKind.i64.wrap (Int.tdiv n0 (2 : Int)))) 64)) s_32.1 s_32.2 N_31 (fun (v_28 : (Value × Unit)) w_29 => ∀ _j_30 : Nat → Value, K (v_28.1 : Value) w_29) w_33) ((x10_2 : Value), (0 : Int)) w_1)))))

theorem eq_impl_circulars (n0 : Int) (sizes1 : Value) (w : World) (K : Value → World → Prop) :
    W Try.prog ty O_impl_circulars_2 (bodyOf Try.f73) (fnPost Try.prog Try.f73.results.toList (.one .any) K) (frame0 [(.int .i64 n0), sizes1] 43) w = V_impl_circulars n0 sizes1 w K := by
  kernel_rfl

theorem body_impl_circulars : Try.f73.body = some (bodyOf Try.f73) := by kernel_rfl
theorem name_impl_circulars : (Try.f73.name == "runtime.NumGoroutine") = false := by kernel_rfl

theorem walk_impl_circulars (n0 : Int) (sizes1 : Value) {w : World} {K : Value → World → Prop} (h : V_impl_circulars n0 sizes1 w K) : Fc Try.prog 73 #[(.int .i64 n0), sizes1] w (.one .any) K :=
  fn_ok follows O_impl_circulars_2_ok Try.func73 name_impl_circulars body_impl_circulars Try.ntmps73 [(.int .i64 n0), sizes1] (Eq.mpr (eq_impl_circulars n0 sizes1 w K) h)

-- uses S9CirM
theorem c_impl_circulars {n : Nat} {a : Value} {l : List Int} {w : World} {K : Value → World → Prop} (h2 : 2 ≤ n) (h13 : n ≤ 13) (ha : SlI w a l) (hl : TwoIs l)
    (hK : ∀ v w' b, w.heap.size ≤ b → Below w.heap.size w w' → OwnS w' b v ((cirA n l).map (cirC n)) → K v w') : Fc Try.prog F_impl_circulars #[.int .i64 (n : Int), a] w (.one .any) K := by
  have hhn : IntKind.i64.wrap (Int.tdiv (n : Int) 2) = ((n / 2 : Nat) : Int) := by
    rw [Int.tdiv_eq_ediv_of_nonneg (by omega), wrap_small (by omega) (by omega)]; omega
  have hpow : 2 ^ (n / 2) ≤ 2 ^ 6 := Nat.pow_le_pow_right (by omega) (by omega)
  refine walk_impl_circulars _ _ (mkS0 fun b0 v0 w1 hb0 q1 h0 => ⟨by decide, ?_⟩)
  rw [hhn]
  refine ⟨by omega, ?_⟩
  rw [wshl' (by omega) (by omega), Int.toNat_natCast]
  refine lp (fun s w' => Below w.heap.size w w' ∧ ∃ (m b : Nat), s.2 = m ∧ m ≤ 2 ^ (n / 2) ∧ w.heap.size ≤ b ∧ OwnS w' b s.1 ((cirL n l m).map (cirC n))) (fun s _ => (100 - s.2).toNat) ⟨q1, 0, b0, rfl, Nat.zero_le _, hb0, by simpa [cirL] using h0⟩ ?_
  rintro ⟨v, t⟩ w2 N ⟨q2, m, b, hm, hm2, hb, ho⟩ hN
  simp only at hm ho
  subst hm
  unfold B_impl_circulars_3
  dsimp only
  have hs2 := q2.size
  have hcl := cirL_len n l m
  refine ⟨fun hlt => ?_, fun hge => ?_⟩
  · have hlt := dec_t hlt
    have hlt : m < 2 ^ (n / 2) := by exact_mod_cast hlt
    refine nilI fun bl vl w3 el q3 ol => ⟨by decide, ?_⟩
    rw [hhn]
    obtain ⟨h, hh⟩ : ∃ h, n / 2 = h := ⟨_, rfl⟩
    rw [hh] at hlt hpow hN ⊢
    have hh6 : h ≤ 6 := by omega
    have hh1 : 1 ≤ h := by omega
    rw [wrap_small (n := (h : Int) - 1) (by omega) (by omega)]
    refine lp (fun s w' => Below w2.heap.size w2 w' ∧ ∃ (t c : Nat), s.2 = (h : Int) - 1 - t ∧ t ≤ h ∧ w2.heap.size ≤ c ∧ OwnI w' c s.1 (digL' h m t)) (fun s _ => (s.2 + 1).toNat) ⟨q3, 0, bl, by simp, by omega, by omega, ol⟩ ?_
    rintro ⟨u, t'⟩ w4 N' ⟨q4, t, c, ht, hth, hc, ho4⟩ hN'
    simp only at ht ho4
    subst ht
    unfold B_impl_circulars_7
    dsimp only
    have hs4 := q4.size
    refine ⟨fun hge => ⟨by have := dec_t hge; omega, ?_⟩, fun hlt2 => ?_⟩
    · have hge := dec_t hge
      rw [show (h : Int) - 1 - (t : Int) = ((h - 1 - t : Nat) : Int) from by omega, wshr (by omega) (by omega)]
      refine appI ho4 (by simp [digL']; omega) fun u' w5 c' o5 m5 hc5 => ?_
      rw [wrap_small (by omega) (by omega)]
      refine hN' _ _ ⟨q4.trans (m5.below (by omega) (by simp; omega)), t + 1, c', by simp only; omega, by omega, by omega, ?_⟩ (by simp only; omega)
      rw [digL'_succ]
      exact o5
    · have hlt2 := dec_f hlt2
      have : t = h := by omega
      subst this
      intro _
      have hdl : digL' t m t = digL t m := rfl
      rw [hdl, ← hh] at ho4
      have hci := cirC_is h2 h13 m
      have hok := cirC_ok h2 h13 m
      have hld := digL_len (n / 2) m
      refine c_impl_circularOf (n := (n : Int)) (k := 2) (l := digL (n / 2) m) (by omega) (by omega) ⟨by omega, by omega⟩ (own_slI ho4 (by omega)) (by omega) (circG_bd (hi := 1) (by omega) (by omega) (digL_in _ _) (by omega)) fun w5 q5 => ?_
      have q45 := q4.trans (q5.mono hs4)
      have hs5 := q45.size
      refine col_var (c := cirC n m) hok fun bx w6 hbx hbx2 q6 ao => ?_
      have q26 := q45.trans (q6.mono hs5)
      have hs6 := q26.size
      have q06 := q2.trans (q26.mono hs2)
      refine c_impl_Colouring_avoids hok (show (0 : Int) ≤ n by omega) (show (n : Int) ≤ 17 by omega) ao (ha.keep q06) (fun e he => by have := hl.2 e he; omega) fun w7 q7 => ?_
      have q27 := q26.trans (q7.mono hs6)
      have hs7 := q27.size
      have q07 := q2.trans (q27.mono hs2)
      have ho7 := ho.keep q27
      have hav : avo (cirC n m) l = okC n m l := rfl
      rw [hav, wrap_small (n := (m : Int) + 1) (by omega) (by omega)]
      refine ⟨fun hy => ?_, fun hno => ?_⟩
      · refine col_all hok (ao.keep q7) (appS hok ho7 (by simp; omega) fun v' w8 b' o8 m8 hb8 => ?_)
        have hz := q07.size
        refine hN (v', (m : Int) + 1) _ ⟨q07.trans (m8.below (by omega) (by simp; omega)), m + 1, b', by simp only; omega, by omega, by omega, ?_⟩ (by simp only; omega)
        rw [cirL_yes hy, List.map_append]
        exact o8
      · refine hN (v, (m : Int) + 1) _ ⟨q07, m + 1, b, by simp only; omega, by omega, hb, ?_⟩ (by simp only; omega)
        rw [cirL_no hno]
        exact ho7
  · have hge := dec_f hge
    have hge : ¬ m < 2 ^ (n / 2) := fun h => hge (by exact_mod_cast h)
    have : m = 2 ^ (n / 2) := by omega
    subst this
    intro _
    exact hK v w2 b hb q2 ho

end Go.Proofs.Ytkadckhealbdaaa

/- The reading of impl_GreatestCircular, and its contract. No condition. -/
namespace Go.Proofs.Ytkadckhealbdaaa
open Go Go.RowKit Eng Mem
set_option linter.unusedVariables false
set_option maxRecDepth 100000
def B_impl_GreatestCircular_4 (sizes0 : Value) (n4 : Int) (N : Value → Int → World → Prop) (D0 : (Unit) → World → Prop) (R : (Int × Int × Unit) → World → Prop) (w : World) : Prop :=
  (((decide (n4 ≥ (2 : Int))) = true → (Fc Try.prog 73 #[(.int .i64 n4), sizes0] w (.one .any) fun (x14_4 : Value) w_3 => (QAll Try.prog (Builtin.len_ #[80] 3 #[x14_4]) (.int .i64) fun (x15_5 : Int) => (((decide (x15_5 > (0 : Int))) = true → R (n4, (0 : Int), ()) w_3) ∧ ((decide (x15_5 > (0 : Int))) = false → N (sizes0 : Value) (IntKind.i64.wrap (n4 - (1 : Int))) w_3))))) ∧ ((decide (n4 ≥ (2 : Int))) = false → D0 () w))

abbrev L_impl_GreatestCircular_4_e0 : List Slot := [.junk, .junk, .junk, .junk, .junk, .junk, .junk, .junk, .junk, .junk, .junk, .junk, .junk, .junk, .junk, .junk, .junk, .junk]

abbrev L_impl_GreatestCircular_4_sp : List Slot := [.k .any, .junk, .junk, .junk, .k (.int .i64), .junk, .junk, .junk, .junk, .junk, .junk, .junk, .junk, .junk, .junk, .junk, .junk, .junk]
abbrev L_impl_GreatestCircular_4_ex : List (Nat × List Slot) := [(0, L_impl_GreatestCircular_4_e0)]
abbrev L_impl_GreatestCircular_4_rt : List Slot := [.junk, .junk, .k (.int .i64), .k (.int .i64), .junk, .junk, .junk, .junk, .junk, .junk, .junk, .junk, .junk, .junk, .junk, .junk, .junk, .junk]

def L_impl_GreatestCircular_4_b (Φ : Post) (u : Value) (N : Value → Int → World → Prop) (s : Int) (w : World) : Prop :=
  B_impl_GreatestCircular_4 u s N (fun v w => ∀ j : Nat → Value, Φ (.exit 0) (mkT j 0 L_impl_GreatestCircular_4_e0 v) w) (fun v w => ∀ j : Nat → Value, Φ .ret (mkT j 0 L_impl_GreatestCircular_4_rt v) w) w

theorem L_impl_GreatestCircular_4_eq (j : Nat → Value) (u : Value) (s : Int) (N : Value → Int → World → Prop) (D0 : (Unit) → World → Prop) (R : (Int × Int × Unit) → World → Prop) (w : World) :
    W Try.prog ty (fun _ _ _ _ => False) (loopAt Try.f31 4) (loopPost L_impl_GreatestCircular_4_sp [(0, (⟨L_impl_GreatestCircular_4_e0, D0⟩ : Door))] ⟨L_impl_GreatestCircular_4_rt, R⟩ (fun v w => N ((fun v => v.1) v) ((fun v => v.2.1) v) w)) (mkT j 0 L_impl_GreatestCircular_4_sp ((fun u s => (u, s, ())) u s)) w =
    B_impl_GreatestCircular_4 u s N D0 R w := by
  kernel_rfl

def O_impl_GreatestCircular_1 : Code → Post → List SV → World → Prop :=
  orc 4 (loopAt Try.f31 4) L_impl_GreatestCircular_4_sp (fun Φ fr w => LOOP (U := Value) (S := Int) ((fun v => v.1) (extT L_impl_GreatestCircular_4_sp fr)) (L_impl_GreatestCircular_4_b Φ ((fun v => v.1) (extT L_impl_GreatestCircular_4_sp fr))) ((fun v => v.2.1) (extT L_impl_GreatestCircular_4_sp fr)) w) (fun _ _ _ _ => False)

theorem O_impl_GreatestCircular_1_ok : Sound Try.prog O_impl_GreatestCircular_1 :=
  orc_ok (sound_none _) fun Φ fr w hs h => loop_ok (ty := ty) follows (sound_none _) L_impl_GreatestCircular_4_sp (fun v => v.1) (fun v => v.2.1) (fun u s => (u, s, ())) (fun _ => rfl) L_impl_GreatestCircular_4_ex L_impl_GreatestCircular_4_rt (body := L_impl_GreatestCircular_4_b Φ) (fun j u s w N hb => by
    have e := L_impl_GreatestCircular_4_eq j u s N (doorOf Φ (.exit 0) L_impl_GreatestCircular_4_e0).D (doorOf Φ .ret L_impl_GreatestCircular_4_rt).D w
    exact Eq.mpr e hb) hs h

def V_impl_GreatestCircular (sizes0 : Value) (w : World) (K : (Int × Int) → World → Prop) : Prop :=
  (Fc Try.prog 71 #[sizes0] w (.one .bool) fun (x6_2 : Bool) w_1 => (((!x6_2) = true → K ((0 : Int), (2 : Int)) w_1) ∧ ((!x6_2) = false → (At (loopAt Try.f31 4) (loopAt Try.f31 4) (LOOP (U := Value) (S := Int) (sizes0 : Value) (fun N_12 s_13 w_14 => B_impl_GreatestCircular_4 (sizes0 : Value) s_13 N_12 (fun (v_6 : (Unit)) w_7 => ∀ _j_8 : Nat → Value, K ((0 : Int), (4 : Int)) w_7) (fun (v_9 : (Int × Int × Unit)) w_10 => ∀ _j_11 : Nat → Value, K (v_9.1, v_9.2.1) w_10) w_14) (13 : Int) w_1)))))

theorem eq_impl_GreatestCircular (sizes0 : Value) (w : World) (K : (Int × Int) → World → Prop) :
    W Try.prog ty O_impl_GreatestCircular_1 (bodyOf Try.f31) (fnPost Try.prog Try.f31.results.toList (.two (.int .i64) (.int .i64)) K) (frame0 [sizes0] 18) w = V_impl_GreatestCircular sizes0 w K := by
  kernel_rfl

theorem body_impl_GreatestCircular : Try.f31.body = some (bodyOf Try.f31) := by kernel_rfl
theorem name_impl_GreatestCircular : (Try.f31.name == "runtime.NumGoroutine") = false := by kernel_rfl

theorem walk_impl_GreatestCircular (sizes0 : Value) {w : World} {K : (Int × Int) → World → Prop} (h : V_impl_GreatestCircular sizes0 w K) : Fc Try.prog 31 #[sizes0] w (.two (.int .i64) (.int .i64)) K :=
  fn_ok follows O_impl_GreatestCircular_1_ok Try.func31 name_impl_GreatestCircular body_impl_GreatestCircular Try.ntmps31 [sizes0] (Eq.mpr (eq_impl_GreatestCircular sizes0 w K) h)

-- uses S9CirM
theorem c_impl_GreatestCircular {a : Value} {l : List Int} {w : World} {K : Int × Int → World → Prop} (ha : ArgI w a l)
    (hK : ∀ w', Below w.heap.size w w' → K ((greatC l).1, (greatC l).2) w') : Fc Try.prog F_impl_GreatestCircular #[a] w (.two (.int .i64) (.int .i64)) K := by
  unfold greatC at hK
  refine walk_impl_GreatestCircular _ (c_impl_areTwo ha.sl fun w1 q1 => ⟨fun h => ?_, fun h => ?_⟩)
  · rw [if_neg (notd_t h)] at hK
    exact hK w1 q1
  have h := notd_f h
  rw [if_pos h] at hK
  refine lp (fun s w' => Below w.heap.size w w' ∧ ∃ m : Nat, s = m ∧ m ≤ 13 ∧ greatR l m = greatR l 13) (fun s _ => s.toNat) ⟨q1, 13, rfl, by omega, rfl⟩ ?_
  rintro t w2 N ⟨q2, m, hm, hm2, hR⟩ hN
  subst hm
  unfold B_impl_GreatestCircular_4
  refine ⟨fun hge => ?_, fun hlt => ?_⟩
  · have hge := dec_t hge
    match m, hge, hm2, hR, hN with
    | m + 1, hge, hm2, hR, hN =>
    refine c_impl_circulars (by omega) (by omega) (ha.sl.keep q2) h fun v w3 b hb q3 ho => lenS_ ho ?_
    have q23 := q2.trans (q3.mono q2.size)
    rw [greatR, if_neg (by omega)] at hR
    rw [List.length_map]
    cases hA : cirA (m + 1) l with
    | nil =>
      rw [hA, if_pos rfl] at hR
      refine ⟨fun hh => absurd (dec_t hh) (by simp), fun _ => ?_⟩
      rw [wrap_small (by omega) (by omega)]
      exact hN _ _ ⟨q23, m, by omega, by omega, hR⟩ (by omega)
    | cons b t =>
      rw [hA, if_neg (by simp)] at hR
      refine ⟨fun _ _ => ?_, fun hh => absurd (by simp) (dec_f hh)⟩
      have := hK w3 q23
      rw [← hR] at this
      exact this
  · have hlt := dec_f hlt
    intro _
    have := hK w2 q2
    rw [← hR] at this
    match m, hlt with
    | 0, _ => exact this
    | 1, _ => exact this
    | m + 2, hlt => omega

end Go.Proofs.Ytkadckhealbdaaa

/- The reading of laws_eqInt64S, and its contract. No condition. -/
namespace Go.Proofs.Ytkadckhealbdaaa
open Go Go.RowKit Eng Mem
set_option linter.unusedVariables false
set_option maxRecDepth 100000
def B_laws_eqInt64S_4 (a0 : Value) (b1 : Value) (i5 : Int) (N : (Value × Value) → Int → World → Prop) (D0 : (Unit) → World → Prop) (R : (Bool × Unit) → World → Prop) (w : World) : Prop :=
  (QAll Try.prog (Builtin.len_ #[31] 3 #[a0]) (.int .i64) fun (x13_3 : Int) => (((decide (i5 < x13_3)) = true → (∀ w_4, Drew w w_4 → (QAll Try.prog (Instr.indexAt 31 a0 (.int .i64 i5)) .any fun (x19_5 : Value) => (QSub Try.prog (Instr.loadAt 2 x19_5) w_4 (.int .i64) fun (x20_6 : Int) => (QAll Try.prog (Instr.indexAt 31 b1 (.int .i64 i5)) .any fun (x23_7 : Value) => (QSub Try.prog (Instr.loadAt 2 x23_7) w_4 (.int .i64) fun (x24_8 : Int) => (((x20_6 != x24_8) = true → R (false, ()) w_4) ∧ ((x20_6 != x24_8) = false → N ((a0 : Value), (b1 : Value)) (IntKind.i64.wrap (i5 + (1 : Int))) w_4)))))))) ∧ ((decide (i5 < x13_3)) = false → D0 () w)))

abbrev L_laws_eqInt64S_4_e0 : List Slot := [.junk, .junk, .junk, .junk, .junk, .junk, .junk, .junk, .junk, .junk, .junk, .junk, .junk, .junk, .junk, .junk, .junk, .junk, .junk, .junk, .junk, .junk, .junk, .junk, .junk, .junk]

abbrev L_laws_eqInt64S_4_sp : List Slot := [.k .any, .k .any, .junk, .junk, .junk, .k (.int .i64), .junk, .junk, .junk, .junk, .junk, .junk, .junk, .junk, .junk, .junk, .junk, .junk, .junk, .junk, .junk, .junk, .junk, .junk, .junk, .junk]
abbrev L_laws_eqInt64S_4_ex : List (Nat × List Slot) := [(0, L_laws_eqInt64S_4_e0)]
abbrev L_laws_eqInt64S_4_rt : List Slot := [.junk, .junk, .junk, .junk, .k .bool, .junk, .junk, .junk, .junk, .junk, .junk, .junk, .junk, .junk, .junk, .junk, .junk, .junk, .junk, .junk, .junk, .junk, .junk, .junk, .junk, .junk]

def L_laws_eqInt64S_4_b (Φ : Post) (u : (Value × Value)) (N : (Value × Value) → Int → World → Prop) (s : Int) (w : World) : Prop :=
  B_laws_eqInt64S_4 u.1 u.2 s N (fun v w => ∀ j : Nat → Value, Φ (.exit 0) (mkT j 0 L_laws_eqInt64S_4_e0 v) w) (fun v w => ∀ j : Nat → Value, Φ .ret (mkT j 0 L_laws_eqInt64S_4_rt v) w) w

theorem L_laws_eqInt64S_4_eq (j : Nat → Value) (u : (Value × Value)) (s : Int) (N : (Value × Value) → Int → World → Prop) (D0 : (Unit) → World → Prop) (R : (Bool × Unit) → World → Prop) (w : World) :
    W Try.prog ty (fun _ _ _ _ => False) (loopAt Try.f20 4) (loopPost L_laws_eqInt64S_4_sp [(0, (⟨L_laws_eqInt64S_4_e0, D0⟩ : Door))] ⟨L_laws_eqInt64S_4_rt, R⟩ (fun v w => N ((fun v => (v.1, v.2.1)) v) ((fun v => v.2.2.1) v) w)) (mkT j 0 L_laws_eqInt64S_4_sp ((fun u s => (u.1, u.2, s, ())) u s)) w =
    B_laws_eqInt64S_4 u.1 u.2 s N D0 R w := by
  kernel_rfl

def O_laws_eqInt64S_1 : Code → Post → List SV → World → Prop :=
  orc 4 (loopAt Try.f20 4) L_laws_eqInt64S_4_sp (fun Φ fr w => LOOP (U := (Value × Value)) (S := Int) ((fun v => (v.1, v.2.1)) (extT L_laws_eqInt64S_4_sp fr)) (L_laws_eqInt64S_4_b Φ ((fun v => (v.1, v.2.1)) (extT L_laws_eqInt64S_4_sp fr))) ((fun v => v.2.2.1) (extT L_laws_eqInt64S_4_sp fr)) w) (fun _ _ _ _ => False)

theorem O_laws_eqInt64S_1_ok : Sound Try.prog O_laws_eqInt64S_1 :=
  orc_ok (sound_none _) fun Φ fr w hs h => loop_ok (ty := ty) follows (sound_none _) L_laws_eqInt64S_4_sp (fun v => (v.1, v.2.1)) (fun v => v.2.2.1) (fun u s => (u.1, u.2, s, ())) (fun _ => rfl) L_laws_eqInt64S_4_ex L_laws_eqInt64S_4_rt (body := L_laws_eqInt64S_4_b Φ) (fun j u s w N hb => by
    have e := L_laws_eqInt64S_4_eq j u s N (doorOf Φ (.exit 0) L_laws_eqInt64S_4_e0).D (doorOf Φ .ret L_laws_eqInt64S_4_rt).D w
    exact Eq.mpr e hb) hs h

def V_laws_eqInt64S (a0 : Value) (b1 : Value) (w : World) (K : Bool → World → Prop) : Prop :=
  (QAll Try.prog (Builtin.len_ #[31] 3 #[a0]) (.int .i64) fun (x7_1 : Int) => (QAll Try.prog (Builtin.len_ #[31] 3 #[b1]) (.int .i64) fun (x9_2 : Int) => (((x7_1 != x9_2) = true → K false w) ∧ ((x7_1 != x9_2) = false → (At (loopAt Try.f20 4) (loopAt Try.f20 4) (LOOP (U := (Value × Value)) (S := Int) ((a0 : Value), (b1 : Value)) (fun N_15 s_16 w_17 => B_laws_eqInt64S_4 (a0 : Value) (b1 : Value) s_16 N_15 (fun (v_9 : (Unit)) w_10 => ∀ _j_11 : Nat → Value, K true w_10) (fun (v_12 : (Bool × Unit)) w_13 => ∀ _j_14 : Nat → Value, K v_12.1 w_13) w_17) (0 : Int) w))))))

theorem eq_laws_eqInt64S (a0 : Value) (b1 : Value) (w : World) (K : Bool → World → Prop) :
    W Try.prog ty O_laws_eqInt64S_1 (bodyOf Try.f20) (fnPost Try.prog Try.f20.results.toList (.one .bool) K) (frame0 [a0, b1] 26) w = V_laws_eqInt64S a0 b1 w K := by
  kernel_rfl

theorem body_laws_eqInt64S : Try.f20.body = some (bodyOf Try.f20) := by kernel_rfl
theorem name_laws_eqInt64S : (Try.f20.name == "runtime.NumGoroutine") = false := by kernel_rfl

theorem walk_laws_eqInt64S (a0 : Value) (b1 : Value) {w : World} {K : Bool → World → Prop} (h : V_laws_eqInt64S a0 b1 w K) : Fc Try.prog 20 #[a0, b1] w (.one .bool) K :=
  fn_ok follows O_laws_eqInt64S_1_ok Try.func20 name_laws_eqInt64S body_laws_eqInt64S Try.ntmps20 [a0, b1] (Eq.mpr (eq_laws_eqInt64S a0 b1 w K) h)

-- uses S2Sl
theorem c_laws_eqInt64S {a b : Value} {l m : List Int} {w : World} {K : Bool → World → Prop} (h : SlI w a l) (k : SlI w b m) (hK : ∀ w', Below w.heap.size w w' → K (decide (l = m)) w') :
    Fc Try.prog F_laws_eqInt64S #[a, b] w (.one .bool) K := by
  have hll := h.len; have hml := k.len
  have yes : ∀ w', Below w.heap.size w w' → l = m → K true w' := fun w' hb he => by have := hK w' hb; rwa [decide_eq_true he] at this
  have no : ∀ w', Below w.heap.size w w' → l ≠ m → K false w' := fun w' hb he => by have := hK w' hb; rwa [decide_eq_false he] at this
  refine walk_laws_eqInt64S _ _ ?_
  refine lenI h (lenI k ⟨fun hne => no w (Below.refl _ _) fun he => by simp [he] at hne, fun heq => ?_⟩)
  have heq : l.length = m.length := by have := ne_f heq; omega
  refine lp (fun i w' => 0 ≤ i ∧ i ≤ l.length ∧ Below w.heap.size w w' ∧ ∀ j : Nat, (j : Int) < i → l.getD j 0 = m.getD j 0) (fun i _ => (l.length - i).toNat)
    ⟨by omega, by omega, Below.refl _ _, fun j hj => by omega⟩ ?_
  rintro i w1 N ⟨h0, hi, hb, hall⟩ hN
  unfold B_laws_eqInt64S_4
  refine lenI (h.keep hb) ⟨fun hlt w' hd => ?_, fun hge => ?_⟩
  · have hlt := of_decide_eq_true hlt
    have hb' := hb.trans (hd.below _)
    refine atI (h.keep hb') h0 hlt (atI (k.keep hb') h0 (by omega) ⟨fun hne _ => ?_, fun he => ?_⟩)
    · exact no w' hb' fun hlm => by subst hlm; simp at hne
    · have he : l.getD i.toNat 0 = m.getD i.toNat 0 := by simpa using he
      rw [wrap_small (by omega) (by omega)]
      refine hN _ _ ⟨by omega, by omega, hb', fun j hj => ?_⟩ (by omega)
      by_cases hji : (j : Int) < i
      · exact hall j hji
      · have : j = i.toNat := by omega
        subst this; exact he
  · have hge := of_decide_eq_false hge
    refine fun _ => yes w1 hb (List.ext_getElem heq fun j h1 h2 => ?_)
    have := hall j (by omega)
    simpa [List.getD, h1, h2] using this

end Go.Proofs.Ytkadckhealbdaaa

/- The reading of laws_toInt64S, and its contract. No condition. -/
namespace Go.Proofs.Ytkadckhealbdaaa
open Go Go.RowKit Eng Mem
set_option linter.unusedVariables false
set_option maxRecDepth 100000
def B_laws_toInt64S_3 (a0 : Value) (out3 : Value) (i4 : Int) (N : (Value × Value) → Int → World → Prop) (D0 : (Value × Unit) → World → Prop) (w : World) : Prop :=
  (QAll Try.prog (Builtin.len_ #[31] 3 #[a0]) (.int .i64) fun (x10_4 : Int) => (((decide (i4 < x10_4)) = true → (QAll Try.prog (Instr.indexAt 31 a0 (.int .i64 i4)) .any fun (x18_5 : Value) => (QSub Try.prog (Instr.loadAt 2 x18_5) w (.int .i64) fun (x19_6 : Int) => (QAll Try.prog (Instr.indexAt 31 out3 (.int .i64 i4)) .any fun (x20_7 : Value) => (PrU Try.prog (Instr.storeAt 2 x20_7 (.int .i64 x19_6)) w fun w_8 => N ((a0 : Value), (out3 : Value)) (IntKind.i64.wrap (i4 + (1 : Int))) w_8))))) ∧ ((decide (i4 < x10_4)) = false → D0 ((out3 : Value), ()) w)))

abbrev L_laws_toInt64S_3_e0 : List Slot := [.junk, .junk, .junk, .k .any, .junk, .junk, .junk, .junk, .junk, .junk, .junk, .junk, .junk, .junk, .junk, .junk, .junk, .junk, .junk, .junk, .junk, .junk]

abbrev L_laws_toInt64S_3_sp : List Slot := [.k .any, .junk, .junk, .k .any, .k (.int .i64), .junk, .junk, .junk, .junk, .junk, .junk, .junk, .junk, .junk, .junk, .junk, .junk, .junk, .junk, .junk, .junk, .junk]
abbrev L_laws_toInt64S_3_ex : List (Nat × List Slot) := [(0, L_laws_toInt64S_3_e0)]
abbrev L_laws_toInt64S_3_rt : List Slot := [.junk, .junk, .junk, .junk, .junk, .junk, .junk, .junk, .junk, .junk, .junk, .junk, .junk, .junk, .junk, .junk, .junk, .junk, .junk, .junk, .junk, .junk]

def L_laws_toInt64S_3_b (Φ : Post) (u : (Value × Value)) (N : (Value × Value) → Int → World → Prop) (s : Int) (w : World) : Prop :=
  B_laws_toInt64S_3 u.1 u.2 s N (fun v w => ∀ j : Nat → Value, Φ (.exit 0) (mkT j 0 L_laws_toInt64S_3_e0 v) w) w

theorem L_laws_toInt64S_3_eq (j : Nat → Value) (u : (Value × Value)) (s : Int) (N : (Value × Value) → Int → World → Prop) (D0 : (Value × Unit) → World → Prop) (R : (Unit) → World → Prop) (w : World) :
    W Try.prog ty (fun _ _ _ _ => False) (loopAt Try.f24 3) (loopPost L_laws_toInt64S_3_sp [(0, (⟨L_laws_toInt64S_3_e0, D0⟩ : Door))] ⟨L_laws_toInt64S_3_rt, R⟩ (fun v w => N ((fun v => (v.1, v.2.1)) v) ((fun v => v.2.2.1) v) w)) (mkT j 0 L_laws_toInt64S_3_sp ((fun u s => (u.1, u.2, s, ())) u s)) w =
    B_laws_toInt64S_3 u.1 u.2 s N D0 w := by
  kernel_rfl

def O_laws_toInt64S_1 : Code → Post → List SV → World → Prop :=
  orc 3 (loopAt Try.f24 3) L_laws_toInt64S_3_sp (fun Φ fr w => LOOP (U := (Value × Value)) (S := Int) ((fun v => (v.1, v.2.1)) (extT L_laws_toInt64S_3_sp fr)) (L_laws_toInt64S_3_b Φ ((fun v => (v.1, v.2.1)) (extT L_laws_toInt64S_3_sp fr))) ((fun v => v.2.2.1) (extT L_laws_toInt64S_3_sp fr)) w) (fun _ _ _ _ => False)

theorem O_laws_toInt64S_1_ok : Sound Try.prog O_laws_toInt64S_1 :=
  orc_ok (sound_none _) fun Φ fr w hs h => loop_ok (ty := ty) follows (sound_none _) L_laws_toInt64S_3_sp (fun v => (v.1, v.2.1)) (fun v => v.2.2.1) (fun u s => (u.1, u.2, s, ())) (fun _ => rfl) L_laws_toInt64S_3_ex L_laws_toInt64S_3_rt (body := L_laws_toInt64S_3_b Φ) (fun j u s w N hb => by
    have e := L_laws_toInt64S_3_eq j u s N (doorOf Φ (.exit 0) L_laws_toInt64S_3_e0).D (doorOf Φ .ret L_laws_toInt64S_3_rt).D w
    exact Eq.mpr e hb) hs h

def V_laws_toInt64S (a0 : Value) (w : World) (K : Value → World → Prop) : Prop :=
  (QAll Try.prog (Builtin.len_ #[31] 3 #[a0]) (.int .i64) fun (x6_1 : Int) => (Pr Try.prog (Instr.makeSlice 31 (.int .i64 x6_1) (.int .i64 x6_1)) w (.one .any) fun (x7_3 : Value) w_2 => (At (loopAt Try.f24 3) (loopAt Try.f24 3) (LOOP (U := (Value × Value)) (S := Int) ((a0 : Value), (x7_3 : Value)) (fun N_13 s_14 w_15 => B_laws_toInt64S_3 (a0 : Value) (x7_3 : Value) s_14 N_13 (fun (v_10 : (Value × Unit)) w_11 => ∀ _j_12 : Nat → Value, K (v_10.1 : Value) w_11) w_15) (0 : Int) w_2))))

theorem eq_laws_toInt64S (a0 : Value) (w : World) (K : Value → World → Prop) :
    W Try.prog ty O_laws_toInt64S_1 (bodyOf Try.f24) (fnPost Try.prog Try.f24.results.toList (.one .any) K) (frame0 [a0] 22) w = V_laws_toInt64S a0 w K := by
  kernel_rfl

theorem body_laws_toInt64S : Try.f24.body = some (bodyOf Try.f24) := by kernel_rfl
theorem name_laws_toInt64S : (Try.f24.name == "runtime.NumGoroutine") = false := by kernel_rfl

theorem walk_laws_toInt64S (a0 : Value) {w : World} {K : Value → World → Prop} (h : V_laws_toInt64S a0 w K) : Fc Try.prog 24 #[a0] w (.one .any) K :=
  fn_ok follows O_laws_toInt64S_1_ok Try.func24 name_laws_toInt64S body_laws_toInt64S Try.ntmps24 [a0] (Eq.mpr (eq_laws_toInt64S a0 w K) h)

-- uses S2Sl
theorem c_laws_toInt64S {a : Value} {l : List Int} {w : World} {K : Value → World → Prop} (ha : ArgI w a l) (hK : ∀ v w', Below w.heap.size w w' → MyI w.heap.size w'.heap.size w' v l → K v w') :
    Fc Try.prog F_laws_toInt64S #[a] w (.one .any) K := by
  have h := ha.sl; have hl := ha.len
  refine walk_laws_toInt64S _ ?_
  refine lenI h (mkI (by omega) (by omega) fun b v w1 hn ho => ?_)
  have e := hn.here
  have h1 := h.keep hn.below
  refine lp (fun i w' => 0 ≤ i ∧ i ≤ l.length ∧ Below w.heap.size w w' ∧ OwnI w' b v (l.take i.toNat ++ List.replicate (l.length - i.toNat) 0)) (fun i _ => (l.length - i).toNat)
    ⟨by omega, by omega, hn.below, by simpa using ho⟩ ?_
  rintro i w' N ⟨h0, hi, hb, hO⟩ hN
  have h' := h.keep hb
  unfold B_laws_toInt64S_3
  refine lenI h' ⟨fun hlt => ?_, fun hge => ?_⟩
  · have hlt := of_decide_eq_true hlt
    refine atI h' h0 hlt (putI hO h0 (by simp; omega) fun w2 m hs hO2 => ?_)
    rw [wrap_small (by omega) (by omega)]
    have hs0 := hb.size
    refine hN _ _ ⟨by omega, by omega, hb.trans ((m.below (B := w.heap.size) (by omega) (by simp; omega)).mono (by omega)), ?_⟩ (by omega)
    have : (l.take i.toNat ++ List.replicate (l.length - i.toNat) 0).set i.toNat (l.getD i.toNat 0) = l.take (i + 1).toNat ++ List.replicate (l.length - (i + 1).toNat) 0 := by
      have := fill_step (xs := l) (zs := List.replicate l.length 0) (i := i.toNat) (by omega) (by simp)
      rw [show l.getD i.toNat 0 = l[i.toNat]'(by omega) from by simp [List.getD, show i.toNat < l.length from by omega], show (i + 1).toNat = i.toNat + 1 from by omega]
      simpa using this
    rw [this] at hO2
    exact hO2
  · have hge := of_decide_eq_false hge
    intro _
    have : i = l.length := by omega
    subst this
    have hO : OwnI w' b v l := by simpa using hO
    exact hK _ _ hb (own_my hO (by omega) (by omega) hO.lt)

end Go.Proofs.Ytkadckhealbdaaa

/- The reading of spec_l01In, and its contract. No condition. -/
namespace Go.Proofs.Ytkadckhealbdaaa
open Go Go.RowKit Eng Mem
set_option linter.unusedVariables false
set_option maxRecDepth 100000
def V_spec_l01In (n0 : Int) (low1 : Int) (high2 : Int) (w : World) (K : Bool → World → Prop) : Prop :=
  (((decide (n0 ≥ low1)) = true → K (decide (n0 ≤ high2)) w) ∧ ((decide (n0 ≥ low1)) = false → K false w))

theorem eq_spec_l01In (n0 : Int) (low1 : Int) (high2 : Int) (w : World) (K : Bool → World → Prop) :
    W Try.prog ty (fun _ _ _ _ => False) (bodyOf Try.f43) (fnPost Try.prog Try.f43.results.toList (.one .bool) K) (frame0 [(.int .i64 n0), (.int .i64 low1), (.int .i64 high2)] 15) w = V_spec_l01In n0 low1 high2 w K := by
  kernel_rfl

theorem body_spec_l01In : Try.f43.body = some (bodyOf Try.f43) := by kernel_rfl
theorem name_spec_l01In : (Try.f43.name == "runtime.NumGoroutine") = false := by kernel_rfl

theorem walk_spec_l01In (n0 : Int) (low1 : Int) (high2 : Int) {w : World} {K : Bool → World → Prop} (h : V_spec_l01In n0 low1 high2 w K) : Fc Try.prog 43 #[(.int .i64 n0), (.int .i64 low1), (.int .i64 high2)] w (.one .bool) K :=
  fn_ok follows (sound_none _) Try.func43 name_spec_l01In body_spec_l01In Try.ntmps43 [(.int .i64 n0), (.int .i64 low1), (.int .i64 high2)] (Eq.mpr (eq_spec_l01In n0 low1 high2 w K) h)

theorem c_spec_l01In (n lo hi : Int) {w : World} {K : Bool → World → Prop} (hK : K (decide (lo ≤ n ∧ n ≤ hi)) w) : Fc Try.prog F_spec_l01In #[.int .i64 n, .int .i64 lo, .int .i64 hi] w (.one .bool) K := by
  refine walk_spec_l01In n lo hi ⟨fun h => ?_, fun h => ?_⟩
  · have h := of_decide_eq_true h
    simpa [h] using hK
  · have h := of_decide_eq_false h
    have : ¬ lo ≤ n := h
    simpa [this] using hK

end Go.Proofs.Ytkadckhealbdaaa

/- The reading of spec_l03Code, and its contract. No condition. -/
namespace Go.Proofs.Ytkadckhealbdaaa
open Go Go.RowKit Eng Mem
set_option linter.unusedVariables false
set_option maxRecDepth 100000
def V_spec_l03Code (n0 : Int) (sizes1 : Value) (w : World) (K : Int → World → Prop) : Prop :=
  (Fc Try.prog 43 #[(.int .i64 n0), (.int .i64 (2 : Int)), (.int .i64 (13 : Int))] w (.one .bool) fun (x6_2 : Bool) w_1 => (((!x6_2) = true → K (2 : Int) w_1) ∧ ((!x6_2) = false → (QAll Try.prog (Builtin.len_ #[31] 3 #[sizes1]) (.int .i64) fun (x10_3 : Int) => (((x10_3 != (2 : Int)) = true → K (2 : Int) w_1) ∧ ((x10_3 != (2 : Int)) = false → (QAll Try.prog (Instr.indexAt 31 sizes1 (.int .i64 (0 : Int))) .any fun (x15_4 : Value) => (QSub Try.prog (Instr.loadAt 2 x15_4) w_1 (.int .i64) fun (x16_5 : Int) => (Fc Try.prog 43 #[(.int .i64 x16_5), (.int .i64 (2 : Int)), (.int .i64 (6 : Int))] w_1 (.one .bool) fun (x17_7 : Bool) w_6 => (((!x17_7) = true → K (2 : Int) w_6) ∧ ((!x17_7) = false → (QAll Try.prog (Instr.indexAt 31 sizes1 (.int .i64 (1 : Int))) .any fun (x22_8 : Value) => (QSub Try.prog (Instr.loadAt 2 x22_8) w_6 (.int .i64) fun (x23_9 : Int) => (Fc Try.prog 43 #[(.int .i64 x23_9), (.int .i64 (2 : Int)), (.int .i64 (6 : Int))] w_6 (.one .bool) fun (x24_11 : Bool) w_10 => (((!x24_11) = true → K (2 : Int) w_10) ∧ ((!x24_11) = false → K (0 : Int) w_10))))))))))))))))

theorem eq_spec_l03Code (n0 : Int) (sizes1 : Value) (w : World) (K : Int → World → Prop) :
    W Try.prog ty (fun _ _ _ _ => False) (bodyOf Try.f69) (fnPost Try.prog Try.f69.results.toList (.one (.int .i64)) K) (frame0 [(.int .i64 n0), sizes1] 27) w = V_spec_l03Code n0 sizes1 w K := by
  kernel_rfl

theorem body_spec_l03Code : Try.f69.body = some (bodyOf Try.f69) := by kernel_rfl
theorem name_spec_l03Code : (Try.f69.name == "runtime.NumGoroutine") = false := by kernel_rfl

theorem walk_spec_l03Code (n0 : Int) (sizes1 : Value) {w : World} {K : Int → World → Prop} (h : V_spec_l03Code n0 sizes1 w K) : Fc Try.prog 69 #[(.int .i64 n0), sizes1] w (.one (.int .i64)) K :=
  fn_ok follows (sound_none _) Try.func69 name_spec_l03Code body_spec_l03Code Try.ntmps69 [(.int .i64 n0), sizes1] (Eq.mpr (eq_spec_l03Code n0 sizes1 w K) h)

-- uses S9CirM
theorem c_spec_l03Code {n : Int} {a : Value} {l : List Int} {w : World} {K : Int → World → Prop} (ha : SlI w a l) (hK : K (if CirIs n l then 0 else 2) w) : Fc Try.prog F_spec_l03Code #[.int .i64 n, a] w (.one (.int .i64)) K := by
  refine walk_spec_l03Code _ _ (c_spec_l01In _ _ _ ⟨fun h => ?_, fun h => lenI ha ⟨fun h2 => ?_, fun h2 => ?_⟩⟩)
  · rwa [if_neg (fun hh => notd_t h hh.1)] at hK
  · rwa [if_neg (fun hh => ne_t h2 (by have := hh.2.1; omega))] at hK
  have h := notd_f h; have h2 := ne_f h2
  have hall : AllIn l 2 6 ↔ (2 ≤ l.getD 0 0 ∧ l.getD 0 0 ≤ 6) ∧ (2 ≤ l.getD 1 0 ∧ l.getD 1 0 ≤ 6) := by
    match l, h2 with
    | [a, b], _ => simp [AllIn]
  refine atI ha (by omega) (by omega) (c_spec_l01In _ _ _ ⟨fun h3 => ?_, fun h3 => atI ha (by omega) (by omega) (c_spec_l01In _ _ _ ⟨fun h4 => ?_, fun h4 => ?_⟩)⟩)
  · rwa [if_neg (fun hh => notd_t h3 (hall.1 hh.2.2).1)] at hK
  · rwa [if_neg (fun hh => notd_t h4 (hall.1 hh.2.2).2)] at hK
  · rwa [if_pos ⟨h, by omega, hall.2 ⟨notd_f h3, notd_f h4⟩⟩] at hK

end Go.Proofs.Ytkadckhealbdaaa

/- The reading of spec_l01Edge, and its contract. No condition. -/
namespace Go.Proofs.Ytkadckhealbdaaa
open Go Go.RowKit Eng Mem
set_option linter.unusedVariables false
set_option maxRecDepth 100000
def V_spec_l01Edge (i0 : Int) (j1 : Int) (w : World) (K : Int → World → Prop) : Prop :=
  (((decide (i0 > j1)) = true → ((2 : Int) ≠ 0 ∧ K (IntKind.i64.wrap ((IntKind.i64.wrap (Int.tdiv (IntKind.i64.wrap (i0 * (IntKind.i64.wrap (i0 - (1 : Int))))) (2 : Int))) + j1)) w)) ∧ ((decide (i0 > j1)) = false → ((2 : Int) ≠ 0 ∧ K (IntKind.i64.wrap ((IntKind.i64.wrap (Int.tdiv (IntKind.i64.wrap (j1 * (IntKind.i64.wrap (j1 - (1 : Int))))) (2 : Int))) + i0)) w)))

theorem eq_spec_l01Edge (i0 : Int) (j1 : Int) (w : World) (K : Int → World → Prop) :
    W Try.prog ty (fun _ _ _ _ => False) (bodyOf Try.f128) (fnPost Try.prog Try.f128.results.toList (.one (.int .i64)) K) (frame0 [(.int .i64 i0), (.int .i64 j1)] 22) w = V_spec_l01Edge i0 j1 w K := by
  kernel_rfl

theorem body_spec_l01Edge : Try.f128.body = some (bodyOf Try.f128) := by kernel_rfl
theorem name_spec_l01Edge : (Try.f128.name == "runtime.NumGoroutine") = false := by kernel_rfl

theorem walk_spec_l01Edge (i0 : Int) (j1 : Int) {w : World} {K : Int → World → Prop} (h : V_spec_l01Edge i0 j1 w K) : Fc Try.prog 128 #[(.int .i64 i0), (.int .i64 j1)] w (.one (.int .i64)) K :=
  fn_ok follows (sound_none _) Try.func128 name_spec_l01Edge body_spec_l01Edge Try.ntmps128 [(.int .i64 i0), (.int .i64 j1)] (Eq.mpr (eq_spec_l01Edge i0 j1 w K) h)

-- uses S5Made
theorem c_spec_l01Edge {i j : Int} {w : World} {K : Int → World → Prop} (h0 : 0 ≤ i) (h1 : i ≤ 17) (k0 : 0 ≤ j) (k1 : j ≤ 17) (hK : K (num i j) w) : Fc Try.prog F_spec_l01Edge #[.int .i64 i, .int .i64 j] w (.one (.int .i64)) K := by
  refine walk_spec_l01Edge _ _ ⟨fun h => ⟨by decide, ?_⟩, fun h => ⟨by decide, ?_⟩⟩
  · have h := dec_t h
    rw [wnum k0 k1 h0 h1]
    unfold num at hK
    rwa [if_neg (by omega)] at hK
  · have h := dec_f h
    rw [wnum h0 h1 k0 k1]
    unfold num at hK
    by_cases h' : i < j
    · rwa [if_pos h'] at hK
    · have : i = j := by omega
      subst this
      rwa [if_neg h'] at hK

end Go.Proofs.Ytkadckhealbdaaa

/- The reading of spec_l01At, and its contract. No condition. -/
namespace Go.Proofs.Ytkadckhealbdaaa
open Go Go.RowKit Eng Mem
set_option linter.unusedVariables false
set_option maxRecDepth 100000
def V_spec_l01At (x0 : Value) (i1 : Int) (j2 : Int) (w : World) (K : Int → World → Prop) : Prop :=
  (Pr Try.prog (Instr.box 25 x0) w (.one .any) fun (x3_2 : Value) w_1 => (Fc Try.prog 128 #[(.int .i64 i1), (.int .i64 j2)] w_1 (.one (.int .i64)) fun (x9_4 : Int) w_3 => (QAll Try.prog (Instr.fieldAt 25 x3_2 2) .any fun (x10_5 : Value) => (QAll Try.prog (Instr.indexAt 22 x10_5 (.int .i64 x9_4)) .any fun (x11_6 : Value) => (QSub Try.prog (Instr.loadAt 5 x11_6) w_3 (.int .u8) fun (x12_7 : Int) => (QAll Try.prog (convert 5 2 (.int .u8 x12_7)) (.int .i64) fun (x13_8 : Int) => K x13_8 w_3))))))

theorem eq_spec_l01At (x0 : Value) (i1 : Int) (j2 : Int) (w : World) (K : Int → World → Prop) :
    W Try.prog ty (fun _ _ _ _ => False) (bodyOf Try.f118) (fnPost Try.prog Try.f118.results.toList (.one (.int .i64)) K) (frame0 [x0, (.int .i64 i1), (.int .i64 j2)] 14) w = V_spec_l01At x0 i1 j2 w K := by
  kernel_rfl

theorem body_spec_l01At : Try.f118.body = some (bodyOf Try.f118) := by kernel_rfl
theorem name_spec_l01At : (Try.f118.name == "runtime.NumGoroutine") = false := by kernel_rfl

theorem walk_spec_l01At (x0 : Value) (i1 : Int) (j2 : Int) {w : World} {K : Int → World → Prop} (h : V_spec_l01At x0 i1 j2 w K) : Fc Try.prog 118 #[x0, (.int .i64 i1), (.int .i64 j2)] w (.one (.int .i64)) K :=
  fn_ok follows (sound_none _) Try.func118 name_spec_l01At body_spec_l01At Try.ntmps118 [x0, (.int .i64 i1), (.int .i64 j2)] (Eq.mpr (eq_spec_l01At x0 i1 j2 w K) h)

-- uses S5Made
theorem c_spec_l01At {c : Col} {i j : Int} {w : World} {K : Int → World → Prop} (hc : c.Ok) (h0 : 0 ≤ i) (h1 : i < 17) (k0 : 0 ≤ j) (k1 : j < 17) (hne : i ≠ j) (hK : ∀ w', Below w.heap.size w w' → K (c.e (num i j).toNat) w') :
    Fc Try.prog F_spec_l01At #[c.val, .int .i64 i, .int .i64 j] w (.one (.int .i64)) K := by
  have hn := num_lt h0 h1 k0 k1 (Int.le_refl _) hne
  rw [show edgesOf 17 = 136 from by decide] at hn
  have hbd := hc.e_bd (num i j).toNat
  exact walk_spec_l01At _ _ _ (col_box fun b w1 n1 hx => c_spec_l01Edge h0 (by omega) k0 (by omega) (col_e hc hx hn.1 hn.2 (u8_int hbd.1 hbd.2 (hK w1 n1.below))))

end Go.Proofs.Ytkadckhealbdaaa

/- The reading of spec_l01Around, and its contract. No condition. -/
namespace Go.Proofs.Ytkadckhealbdaaa
open Go Go.RowKit Eng Mem
set_option linter.unusedVariables false
set_option maxRecDepth 100000
def B_spec_l01Around_3 (i1 : Int) (c2 : Int) (x3 : Value) (set7 : Int) (j8 : Int) (N : (Int × Int × Value) → (Int × Int) → World → Prop) (D0 : (Int × Unit) → World → Prop) (w : World) : Prop :=
  (QAll Try.prog (Instr.fieldAt 25 x3 0) .any fun (x10_3 : Value) => (QSub Try.prog (Instr.loadAt 2 x10_3) w (.int .i64) fun (x11_4 : Int) => (((decide (j8 < x11_4)) = true → (((j8 != i1) = true → (QSub Try.prog (Instr.loadAt 25 x3) w .any fun (x19_5 : Value) => (Fc Try.prog 118 #[x19_5, (.int .i64 i1), (.int .i64 j8)] w (.one (.int .i64)) fun (x22_7 : Int) w_6 => (((x22_7 == c2) = true → (QAll Try.prog (convert 2 102 (.int .i64 j8)) (.int .u64) fun (x28_8 : Int) => (0 ≤ x28_8 ∧ N (i1, c2, (x3 : Value)) ((IntKind.i64.wrap ((BitVec.toNat (BitVec.ofInt (IntKind.bits .i64) set7 ||| BitVec.ofInt (IntKind.bits .i64) (IntKind.i64.wrap ((1 : Int) * 2 ^ min (Int.toNat x28_8) 64))) : Nat))), (IntKind.i64.wrap (j8 + (1 : Int)))) w_6))) ∧ ((x22_7 == c2) = false → N (i1, c2, (x3 : Value)) (set7, (IntKind.i64.wrap (j8 + (1 : Int)))) w_6))))) ∧ ((j8 != i1) = false → N (i1, c2, (x3 : Value)) (set7, (IntKind.i64.wrap (j8 + (1 : Int)))) w))) ∧ ((decide (j8 < x11_4)) = false → D0 (set7, ()) w))))

abbrev L_spec_l01Around_3_e0 : List Slot := [.junk, .junk, .junk, .junk, .junk, .junk, .junk, .k (.int .i64), .junk, .junk, .junk, .junk, .junk, .junk, .junk, .junk, .junk, .junk, .junk, .junk, .junk, .junk, .junk, .junk, .junk, .junk, .junk, .junk, .junk, .junk, .junk, .junk]

abbrev L_spec_l01Around_3_sp : List Slot := [.junk, .k (.int .i64), .k (.int .i64), .k .any, .junk, .junk, .junk, .k (.int .i64), .k (.int .i64), .junk, .junk, .junk, .junk, .junk, .junk, .junk, .junk, .junk, .junk, .junk, .junk, .junk, .junk, .junk, .junk, .junk, .junk, .junk, .junk, .junk, .junk, .junk]
abbrev L_spec_l01Around_3_ex : List (Nat × List Slot) := [(0, L_spec_l01Around_3_e0)]
abbrev L_spec_l01Around_3_rt : List Slot := [.junk, .junk, .junk, .junk, .junk, .junk, .junk, .junk, .junk, .junk, .junk, .junk, .junk, .junk, .junk, .junk, .junk, .junk, .junk, .junk, .junk, .junk, .junk, .junk, .junk, .junk, .junk, .junk, .junk, .junk, .junk, .junk]

def L_spec_l01Around_3_b (Φ : Post) (u : (Int × Int × Value)) (N : (Int × Int × Value) → (Int × Int) → World → Prop) (s : (Int × Int)) (w : World) : Prop :=
  B_spec_l01Around_3 u.1 u.2.1 u.2.2 s.1 s.2 N (fun v w => ∀ j : Nat → Value, Φ (.exit 0) (mkT j 0 L_spec_l01Around_3_e0 v) w) w

theorem L_spec_l01Around_3_eq (j : Nat → Value) (u : (Int × Int × Value)) (s : (Int × Int)) (N : (Int × Int × Value) → (Int × Int) → World → Prop) (D0 : (Int × Unit) → World → Prop) (R : (Unit) → World → Prop) (w : World) :
    W Try.prog ty (fun _ _ _ _ => False) (loopAt Try.f117 3) (loopPost L_spec_l01Around_3_sp [(0, (⟨L_spec_l01Around_3_e0, D0⟩ : Door))] ⟨L_spec_l01Around_3_rt, R⟩ (fun v w => N ((fun v => (v.1, v.2.1, v.2.2.1)) v) ((fun v => (v.2.2.2.1, v.2.2.2.2.1)) v) w)) (mkT j 0 L_spec_l01Around_3_sp ((fun u s => (u.1, u.2.1, u.2.2, s.1, s.2, ())) u s)) w =
    B_spec_l01Around_3 u.1 u.2.1 u.2.2 s.1 s.2 N D0 w := by
  kernel_rfl

def O_spec_l01Around_1 : Code → Post → List SV → World → Prop :=
  orc 3 (loopAt Try.f117 3) L_spec_l01Around_3_sp (fun Φ fr w => LOOP (U := (Int × Int × Value)) (S := (Int × Int)) ((fun v => (v.1, v.2.1, v.2.2.1)) (extT L_spec_l01Around_3_sp fr)) (L_spec_l01Around_3_b Φ ((fun v => (v.1, v.2.1, v.2.2.1)) (extT L_spec_l01Around_3_sp fr))) ((fun v => (v.2.2.2.1, v.2.2.2.2.1)) (extT L_spec_l01Around_3_sp fr)) w) (fun _ _ _ _ => False)

theorem O_spec_l01Around_1_ok : Sound Try.prog O_spec_l01Around_1 :=
  orc_ok (sound_none _) fun Φ fr w hs h => loop_ok (ty := ty) follows (sound_none _) L_spec_l01Around_3_sp (fun v => (v.1, v.2.1, v.2.2.1)) (fun v => (v.2.2.2.1, v.2.2.2.2.1)) (fun u s => (u.1, u.2.1, u.2.2, s.1, s.2, ())) (fun _ => rfl) L_spec_l01Around_3_ex L_spec_l01Around_3_rt (body := L_spec_l01Around_3_b Φ) (fun j u s w N hb => by
    have e := L_spec_l01Around_3_eq j u s N (doorOf Φ (.exit 0) L_spec_l01Around_3_e0).D (doorOf Φ .ret L_spec_l01Around_3_rt).D w
    exact Eq.mpr e hb) hs h

def V_spec_l01Around (x0 : Value) (i1 : Int) (c2 : Int) (w : World) (K : Int → World → Prop) : Prop :=
  (Pr Try.prog (Instr.box 25 x0) w (.one .any) fun (x3_2 : Value) w_1 => (At (loopAt Try.f117 3) (loopAt Try.f117 3) (LOOP (U := (Int × Int × Value)) (S := (Int × Int)) (i1, c2, (x3_2 : Value)) (fun N_12 s_13 w_14 => B_spec_l01Around_3 i1 c2 (x3_2 : Value) s_13.1 s_13.2 N_12 (fun (v_9 : (Int × Unit)) w_10 => ∀ _j_11 : Nat → Value, K v_9.1 w_10) w_14) ((0 : Int), (0 : Int)) w_1)))

theorem eq_spec_l01Around (x0 : Value) (i1 : Int) (c2 : Int) (w : World) (K : Int → World → Prop) :
    W Try.prog ty O_spec_l01Around_1 (bodyOf Try.f117) (fnPost Try.prog Try.f117.results.toList (.one (.int .i64)) K) (frame0 [x0, (.int .i64 i1), (.int .i64 c2)] 32) w = V_spec_l01Around x0 i1 c2 w K := by
  kernel_rfl

theorem body_spec_l01Around : Try.f117.body = some (bodyOf Try.f117) := by kernel_rfl
theorem name_spec_l01Around : (Try.f117.name == "runtime.NumGoroutine") = false := by kernel_rfl

theorem walk_spec_l01Around (x0 : Value) (i1 : Int) (c2 : Int) {w : World} {K : Int → World → Prop} (h : V_spec_l01Around x0 i1 c2 w K) : Fc Try.prog 117 #[x0, (.int .i64 i1), (.int .i64 c2)] w (.one (.int .i64)) K :=
  fn_ok follows O_spec_l01Around_1_ok Try.func117 name_spec_l01Around body_spec_l01Around Try.ntmps117 [x0, (.int .i64 i1), (.int .i64 c2)] (Eq.mpr (eq_spec_l01Around x0 i1 c2 w K) h)

-- uses S8Deg
-- uses S7Dig
theorem wshl {j : Int} (h0 : 0 ≤ j) (h1 : j < 62) : IntKind.i64.wrap (1 * 2 ^ min (Int.toNat j) 64) = ((2 ^ j.toNat : Nat) : Int) := by
  have e : ((2 : Int) ^ j.toNat) = ((2 ^ j.toNat : Nat) : Int) := by simp
  have : 2 ^ j.toNat ≤ 2 ^ 61 := Nat.pow_le_pow_right (by omega) (by omega)
  rw [Nat.min_eq_left (by omega), Int.one_mul, e]
  generalize 2 ^ j.toNat = t at this
  exact wrap_small (by omega) (by omega)
theorem c_spec_l01Around {c : Col} {i col : Int} {w : World} {K : Int → World → Prop} (hc : c.Ok) (h0 : 0 ≤ i) (h1 : i < 17) (n1 : c.n ≤ 17) (hK : ∀ w', Below w.heap.size w w' → K (bitsN (fun j => joinB c i j col) c.n.toNat : Nat) w') :
    Fc Try.prog F_spec_l01Around #[c.val, .int .i64 i, .int .i64 col] w (.one (.int .i64)) K := by
  refine walk_spec_l01Around _ _ _ (col_box fun b w1 m1 hx => ?_)
  have q1 := m1.below
  refine lp (fun s w' => Below w1.heap.size w1 w' ∧ ∃ j : Nat, s.2 = j ∧ j ≤ c.n.toNat ∧ s.1 = (bitsN (fun j => joinB c i j col) j : Nat)) (fun s _ => (17 - s.2).toNat) ⟨Below.refl _ _, 0, rfl, by omega, by simp [bitsN]⟩ ?_
  rintro ⟨a, t⟩ w2 N ⟨q2, j, hj, hjn, ha⟩ hN
  simp only at hj ha
  subst hj; subst ha
  unfold B_spec_l01Around_3
  dsimp only
  have hx2 := hx.keep q2
  refine col_n hx2 ⟨fun h => ?_, fun h => ?_⟩
  · have h := dec_t h
    have hlt := bitsN_lt (fun j => joinB c i j col) j
    have hp : 2 ^ j ≤ 2 ^ 17 := Nat.pow_le_pow_right (by omega) (by omega)
    have hs : bitsN (fun j => joinB c i j col) (j + 1) = bitsN (fun j => joinB c i j col) j + if joinB c i j col then 2 ^ j else 0 := rfl
    have no : joinB c i j col = false → ∀ w', Below w1.heap.size w1 w' → N (i, col, ptr b 0) (((bitsN (fun j => joinB c i j col) j : Nat) : Int), IntKind.i64.wrap ((j : Int) + 1)) w' := fun hf w' hb => by
      rw [wrap_small (by omega) (by omega)]
      refine hN _ _ ⟨hb, j + 1, by simp only; omega, by omega, ?_⟩ (by simp only; omega)
      simp only [hs, hf]
      simp
    refine ⟨fun hne => ?_, fun he => ?_⟩
    · have hne := ne_t hne
      refine col_all hc hx2 (c_spec_l01At hc h0 h1 (by omega) (by omega) (Ne.symm hne) fun w3 hb3 => ?_)
      have q3 := q2.trans (hb3.mono q2.size)
      refine ⟨fun hcol => ?_, fun hcol => ?_⟩
      · have hcol := eq_t hcol
        have hyes : joinB c i j col = true := by simp only [joinB, decide_eq_true_eq]; exact ⟨Ne.symm hne, hcol⟩
        refine int_u64 (by omega) (by omega) ⟨by omega, ?_⟩
        have hor := bitsN_or hlt
        rw [wshl (by omega) (by omega), Int.toNat_natCast]
        generalize 2 ^ j = T at hs hlt hp hor ⊢
        rw [wor (by omega) (by omega) (by omega) (by omega), wrap_small (n := (j : Int) + 1) (by omega) (by omega)]
        refine hN _ _ ⟨q3, j + 1, by simp only; omega, by omega, ?_⟩ (by simp only; omega)
        simp only [hs, hyes, if_true, Int.toNat_natCast, hor]
      · exact no (by simp only [joinB, decide_eq_false_iff_not]; exact fun hh => eq_f hcol hh.2) w3 q3
    · exact no (by simp only [joinB, decide_eq_false_iff_not]; exact fun hh => hh.1 (ne_f he).symm) w2 q2
  · have h := dec_f h
    intro _
    have : j = c.n.toNat := by omega
    subst this
    exact hK w2 (q1.trans (q2.mono q1.size))

end Go.Proofs.Ytkadckhealbdaaa

/- The reading of spec_l01Ones, and its contract. No condition. -/
namespace Go.Proofs.Ytkadckhealbdaaa
open Go Go.RowKit Eng Mem
set_option linter.unusedVariables false
set_option maxRecDepth 100000
def B_spec_l01Ones_2 (n0 : Int) (count3 : Int) (N : Unit → (Int × Int) → World → Prop) (D0 : (Int × Unit) → World → Prop) (w : World) : Prop :=
  (((decide (n0 > (0 : Int))) = true → ((2 : Int) ≠ 0 ∧ ((2 : Int) ≠ 0 ∧ N () ((IntKind.i64.wrap (Int.tdiv n0 (2 : Int))), (IntKind.i64.wrap (count3 + (Int.tmod n0 (2 : Int))))) w))) ∧ ((decide (n0 > (0 : Int))) = false → D0 (count3, ()) w))

abbrev L_spec_l01Ones_2_e0 : List Slot := [.junk, .junk, .junk, .k (.int .i64), .junk, .junk, .junk, .junk, .junk, .junk, .junk, .junk, .junk]

abbrev L_spec_l01Ones_2_sp : List Slot := [.k (.int .i64), .junk, .junk, .k (.int .i64), .junk, .junk, .junk, .junk, .junk, .junk, .junk, .junk, .junk]
abbrev L_spec_l01Ones_2_ex : List (Nat × List Slot) := [(0, L_spec_l01Ones_2_e0)]
abbrev L_spec_l01Ones_2_rt : List Slot := [.junk, .junk, .junk, .junk, .junk, .junk, .junk, .junk, .junk, .junk, .junk, .junk, .junk]

def L_spec_l01Ones_2_b (Φ : Post) (u : Unit) (N : Unit → (Int × Int) → World → Prop) (s : (Int × Int)) (w : World) : Prop :=
  B_spec_l01Ones_2 s.1 s.2 N (fun v w => ∀ j : Nat → Value, Φ (.exit 0) (mkT j 0 L_spec_l01Ones_2_e0 v) w) w

theorem L_spec_l01Ones_2_eq (j : Nat → Value) (u : Unit) (s : (Int × Int)) (N : Unit → (Int × Int) → World → Prop) (D0 : (Int × Unit) → World → Prop) (R : (Unit) → World → Prop) (w : World) :
    W Try.prog ty (fun _ _ _ _ => False) (loopAt Try.f116 2) (loopPost L_spec_l01Ones_2_sp [(0, (⟨L_spec_l01Ones_2_e0, D0⟩ : Door))] ⟨L_spec_l01Ones_2_rt, R⟩ (fun v w => N ((fun v => ()) v) ((fun v => (v.1, v.2.1)) v) w)) (mkT j 0 L_spec_l01Ones_2_sp ((fun u s => (s.1, s.2, ())) u s)) w =
    B_spec_l01Ones_2 s.1 s.2 N D0 w := by
  kernel_rfl

def O_spec_l01Ones_1 : Code → Post → List SV → World → Prop :=
  orc 2 (loopAt Try.f116 2) L_spec_l01Ones_2_sp (fun Φ fr w => LOOP (U := Unit) (S := (Int × Int)) ((fun v => ()) (extT L_spec_l01Ones_2_sp fr)) (L_spec_l01Ones_2_b Φ ((fun v => ()) (extT L_spec_l01Ones_2_sp fr))) ((fun v => (v.1, v.2.1)) (extT L_spec_l01Ones_2_sp fr)) w) (fun _ _ _ _ => False)

theorem O_spec_l01Ones_1_ok : Sound Try.prog O_spec_l01Ones_1 :=
  orc_ok (sound_none _) fun Φ fr w hs h => loop_ok (ty := ty) follows (sound_none _) L_spec_l01Ones_2_sp (fun v => ()) (fun v => (v.1, v.2.1)) (fun u s => (s.1, s.2, ())) (fun _ => rfl) L_spec_l01Ones_2_ex L_spec_l01Ones_2_rt (body := L_spec_l01Ones_2_b Φ) (fun j u s w N hb => by
    have e := L_spec_l01Ones_2_eq j u s N (doorOf Φ (.exit 0) L_spec_l01Ones_2_e0).D (doorOf Φ .ret L_spec_l01Ones_2_rt).D w
    exact Eq.mpr e hb) hs h

def V_spec_l01Ones (n0 : Int) (w : World) (K : Int → World → Prop) : Prop :=
  (At (loopAt Try.f116 2) (loopAt Try.f116 2) (LOOP (U := Unit) (S := (Int × Int)) () (fun N_4 s_5 w_6 => B_spec_l01Ones_2 s_5.1 s_5.2 N_4 (fun (v_1 : (Int × Unit)) w_2 => ∀ _j_3 : Nat → Value, K v_1.1 w_2) w_6) (n0, (0 : Int)) w))

theorem eq_spec_l01Ones (n0 : Int) (w : World) (K : Int → World → Prop) :
    W Try.prog ty O_spec_l01Ones_1 (bodyOf Try.f116) (fnPost Try.prog Try.f116.results.toList (.one (.int .i64)) K) (frame0 [(.int .i64 n0)] 13) w = V_spec_l01Ones n0 w K := by
  kernel_rfl

theorem body_spec_l01Ones : Try.f116.body = some (bodyOf Try.f116) := by kernel_rfl
theorem name_spec_l01Ones : (Try.f116.name == "runtime.NumGoroutine") = false := by kernel_rfl

theorem walk_spec_l01Ones (n0 : Int) {w : World} {K : Int → World → Prop} (h : V_spec_l01Ones n0 w K) : Fc Try.prog 116 #[(.int .i64 n0)] w (.one (.int .i64)) K :=
  fn_ok follows O_spec_l01Ones_1_ok Try.func116 name_spec_l01Ones body_spec_l01Ones Try.ntmps116 [(.int .i64 n0)] (Eq.mpr (eq_spec_l01Ones n0 w K) h)

-- uses S8Deg
theorem c_spec_l01Ones {n : Nat} {w : World} {K : Int → World → Prop} (hn : n < 2 ^ 62) (hK : K (onesN n : Int) w) : Fc Try.prog F_spec_l01Ones #[.int .i64 (n : Int)] w (.one (.int .i64)) K := by
  refine walk_spec_l01Ones _ ?_
  have hl := onesN_le hn
  refine lp (fun s w' => w' = w ∧ ∃ m : Nat, s.1 = m ∧ m < 2 ^ 62 ∧ 0 ≤ s.2 ∧ s.2 + onesN m = onesN n) (fun s _ => s.1.toNat) ⟨rfl, n, rfl, hn, by simp, by simp⟩ ?_
  rintro ⟨a, c⟩ w' N ⟨rfl, m, hm, hm2, c0, hc⟩ hN
  simp only at hm c0 hc
  subst hm
  unfold B_spec_l01Ones_2
  dsimp only
  refine ⟨fun h => ⟨by decide, by decide, ?_⟩, fun h => ?_⟩
  · have h := dec_t h
    have hs := onesN_step m
    rw [show Int.tdiv (m : Int) 2 = ((m / 2 : Nat) : Int) from by rw [Int.tdiv_eq_ediv_of_nonneg (by omega)]; omega, show Int.tmod (m : Int) 2 = ((m % 2 : Nat) : Int) from by rw [Int.tmod_eq_emod_of_nonneg (by omega)]; omega,
      wrap_small (n := ((m / 2 : Nat) : Int)) (by omega) (by omega), wrap_small (by omega) (by omega)]
    exact hN _ _ ⟨rfl, m / 2, rfl, by omega, by simp only; omega, by simp only; omega⟩ (by simp only; omega)
  · have h := dec_f h
    have : m = 0 := by omega
    subst this
    intro _
    rw [show c = (onesN n : Int) from by have : onesN 0 = 0 := by simp [onesN]
                                         omega]
    exact hK

end Go.Proofs.Ytkadckhealbdaaa

/- The reading of spec_l03Clique, and its contract. No condition. -/
namespace Go.Proofs.Ytkadckhealbdaaa
open Go Go.RowKit Eng Mem
set_option linter.unusedVariables false
set_option maxRecDepth 100000
def B_spec_l03Clique_6 (c1 : Int) (m3 : Int) (x4 : Value) (set2 : Int) (i9 : Int) (N : (Int × Int × Value) → (Int × Int) → World → Prop) (D0 : (Unit) → World → Prop) (R : (Bool × Unit) → World → Prop) (w : World) : Prop :=
  (QAll Try.prog (Instr.fieldAt 25 x4 0) .any fun (x17_5 : Value) => (QSub Try.prog (Instr.loadAt 2 x17_5) w (.int .i64) fun (x18_6 : Int) => (((decide (i9 < x18_6)) = true → (QAll Try.prog (convert 2 102 (.int .i64 i9)) (.int .u64) fun (x24_7 : Int) => (0 ≤ x24_7 ∧ ((((IntKind.i64.wrap ((BitVec.toNat (BitVec.ofInt (IntKind.bits .i64) (Int.fdiv set2 (2 ^ min (Int.toNat x24_7) 64)) &&& BitVec.ofInt (IntKind.bits .i64) (1 : Int)) : Nat))) == (0 : Int)) = true → N (c1, m3, (x4 : Value)) (set2, (IntKind.i64.wrap (i9 + (1 : Int)))) w) ∧ (((IntKind.i64.wrap ((BitVec.toNat (BitVec.ofInt (IntKind.bits .i64) (Int.fdiv set2 (2 ^ min (Int.toNat x24_7) 64)) &&& BitVec.ofInt (IntKind.bits .i64) (1 : Int)) : Nat))) == (0 : Int)) = false → (QAll Try.prog (convert 2 102 (.int .i64 i9)) (.int .u64) fun (x30_8 : Int) => (0 ≤ x30_8 ∧ (∀ w_9, Drew w w_9 → (QSub Try.prog (Instr.loadAt 25 x4) w_9 .any fun (x33_10 : Value) => (QSub Try.prog (Instr.loadAt 25 x4) w_9 .any fun (x36_11 : Value) => (Fc Try.prog 117 #[x36_11, (.int .i64 i9), (.int .i64 c1)] w_9 (.one (.int .i64)) fun (x39_13 : Int) w_12 => (Keeps w_9 w_12 ((Fc Try.prog 105 #[x33_10, (.int .i64 c1), (.int .i64 (IntKind.i64.wrap ((BitVec.toNat (BitVec.ofInt (IntKind.bits .i64) (IntKind.i64.wrap (set2 - (IntKind.i64.wrap ((1 : Int) * 2 ^ min (Int.toNat x30_8) 64)))) &&& BitVec.ofInt (IntKind.bits .i64) x39_13) : Nat)))), (.int .i64 (IntKind.i64.wrap (m3 - (1 : Int))))] w_12 (.one .bool) fun (x43_15 : Bool) w_14 => (Keeps w_9 w_14 (((x43_15 = true → R (true, ()) w_14) ∧ (x43_15 = false → N (c1, m3, (x4 : Value)) ((IntKind.i64.wrap (set2 - (IntKind.i64.wrap ((1 : Int) * 2 ^ min (Int.toNat x30_8) 64)))), (IntKind.i64.wrap (i9 + (1 : Int)))) w_14)))))))))))))))))) ∧ ((decide (i9 < x18_6)) = false → D0 () w))))

abbrev L_spec_l03Clique_6_e0 : List Slot := [.junk, .junk, .junk, .junk, .junk, .junk, .junk, .junk, .junk, .junk, .junk, .junk, .junk, .junk, .junk, .junk, .junk, .junk, .junk, .junk, .junk, .junk, .junk, .junk, .junk, .junk, .junk, .junk, .junk, .junk, .junk, .junk, .junk, .junk, .junk, .junk, .junk, .junk, .junk, .junk, .junk, .junk, .junk, .junk]

abbrev L_spec_l03Clique_6_sp : List Slot := [.junk, .k (.int .i64), .k (.int .i64), .k (.int .i64), .k .any, .junk, .junk, .junk, .junk, .k (.int .i64), .junk, .junk, .junk, .junk, .junk, .junk, .junk, .junk, .junk, .junk, .junk, .junk, .junk, .junk, .junk, .junk, .junk, .junk, .junk, .junk, .junk, .junk, .junk, .junk, .junk, .junk, .junk, .junk, .junk, .junk, .junk, .junk, .junk, .junk]
abbrev L_spec_l03Clique_6_ex : List (Nat × List Slot) := [(0, L_spec_l03Clique_6_e0)]
abbrev L_spec_l03Clique_6_rt : List Slot := [.junk, .junk, .junk, .junk, .junk, .junk, .junk, .junk, .k .bool, .junk, .junk, .junk, .junk, .junk, .junk, .junk, .junk, .junk, .junk, .junk, .junk, .junk, .junk, .junk, .junk, .junk, .junk, .junk, .junk, .junk, .junk, .junk, .junk, .junk, .junk, .junk, .junk, .junk, .junk, .junk, .junk, .junk, .junk, .junk]

def L_spec_l03Clique_6_b (Φ : Post) (u : (Int × Int × Value)) (N : (Int × Int × Value) → (Int × Int) → World → Prop) (s : (Int × Int)) (w : World) : Prop :=
  B_spec_l03Clique_6 u.1 u.2.1 u.2.2 s.1 s.2 N (fun v w => ∀ j : Nat → Value, Φ (.exit 0) (mkT j 0 L_spec_l03Clique_6_e0 v) w) (fun v w => ∀ j : Nat → Value, Φ .ret (mkT j 0 L_spec_l03Clique_6_rt v) w) w

theorem L_spec_l03Clique_6_eq (j : Nat → Value) (u : (Int × Int × Value)) (s : (Int × Int)) (N : (Int × Int × Value) → (Int × Int) → World → Prop) (D0 : (Unit) → World → Prop) (R : (Bool × Unit) → World → Prop) (w : World) :
    W Try.prog ty (fun _ _ _ _ => False) (loopAt Try.f105 6) (loopPost L_spec_l03Clique_6_sp [(0, (⟨L_spec_l03Clique_6_e0, D0⟩ : Door))] ⟨L_spec_l03Clique_6_rt, R⟩ (fun v w => N ((fun v => (v.1, v.2.2.1, v.2.2.2.1)) v) ((fun v => (v.2.1, v.2.2.2.2.1)) v) w)) (mkT j 0 L_spec_l03Clique_6_sp ((fun u s => (u.1, s.1, u.2.1, u.2.2, s.2, ())) u s)) w =
    B_spec_l03Clique_6 u.1 u.2.1 u.2.2 s.1 s.2 N D0 R w := by
  kernel_rfl

def O_spec_l03Clique_1 : Code → Post → List SV → World → Prop :=
  orc 6 (loopAt Try.f105 6) L_spec_l03Clique_6_sp (fun Φ fr w => LOOP (U := (Int × Int × Value)) (S := (Int × Int)) ((fun v => (v.1, v.2.2.1, v.2.2.2.1)) (extT L_spec_l03Clique_6_sp fr)) (L_spec_l03Clique_6_b Φ ((fun v => (v.1, v.2.2.1, v.2.2.2.1)) (extT L_spec_l03Clique_6_sp fr))) ((fun v => (v.2.1, v.2.2.2.2.1)) (extT L_spec_l03Clique_6_sp fr)) w) (fun _ _ _ _ => False)

theorem O_spec_l03Clique_1_ok : Sound Try.prog O_spec_l03Clique_1 :=
  orc_ok (sound_none _) fun Φ fr w hs h => loop_ok (ty := ty) follows (sound_none _) L_spec_l03Clique_6_sp (fun v => (v.1, v.2.2.1, v.2.2.2.1)) (fun v => (v.2.1, v.2.2.2.2.1)) (fun u s => (u.1, s.1, u.2.1, u.2.2, s.2, ())) (fun _ => rfl) L_spec_l03Clique_6_ex L_spec_l03Clique_6_rt (body := L_spec_l03Clique_6_b Φ) (fun j u s w N hb => by
    have e := L_spec_l03Clique_6_eq j u s N (doorOf Φ (.exit 0) L_spec_l03Clique_6_e0).D (doorOf Φ .ret L_spec_l03Clique_6_rt).D w
    exact Eq.mpr e hb) hs h

def V_spec_l03Clique (x0 : Value) (c1 : Int) (set2 : Int) (m3 : Int) (w : World) (K : Bool → World → Prop) : Prop :=
  (Pr Try.prog (Instr.box 25 x0) w (.one .any) fun (x4_2 : Value) w_1 => (((m3 == (0 : Int)) = true → K true w_1) ∧ ((m3 == (0 : Int)) = false → (Fc Try.prog 116 #[(.int .i64 set2)] w_1 (.one (.int .i64)) fun (x13_4 : Int) w_3 => (((decide (x13_4 < m3)) = true → K false w_3) ∧ ((decide (x13_4 < m3)) = false → (At (loopAt Try.f105 6) (loopAt Try.f105 6) (LOOP (U := (Int × Int × Value)) (S := (Int × Int)) (c1, m3, (x4_2 : Value)) (fun N_22 s_23 w_24 => B_spec_l03Clique_6 c1 m3 (x4_2 : Value) s_23.1 s_23.2 N_22 (fun (v_16 : (Unit)) w_17 => ∀ _j_18 : Nat → Value, K false w_17) (fun (v_19 : (Bool × Unit)) w_20 => ∀ _j_21 : Nat → Value, K v_19.1 w_20) w_24) (set2, (0 : Int)) w_3))))))))

theorem eq_spec_l03Clique (x0 : Value) (c1 : Int) (set2 : Int) (m3 : Int) (w : World) (K : Bool → World → Prop) :
    W Try.prog ty O_spec_l03Clique_1 (bodyOf Try.f105) (fnPost Try.prog Try.f105.results.toList (.one .bool) K) (frame0 [x0, (.int .i64 c1), (.int .i64 set2), (.int .i64 m3)] 44) w = V_spec_l03Clique x0 c1 set2 m3 w K := by
  kernel_rfl

theorem body_spec_l03Clique : Try.f105.body = some (bodyOf Try.f105) := by kernel_rfl
theorem name_spec_l03Clique : (Try.f105.name == "runtime.NumGoroutine") = false := by kernel_rfl

theorem walk_spec_l03Clique (x0 : Value) (c1 : Int) (set2 : Int) (m3 : Int) {w : World} {K : Bool → World → Prop} (h : V_spec_l03Clique x0 c1 set2 m3 w K) : Fc Try.prog 105 #[x0, (.int .i64 c1), (.int .i64 set2), (.int .i64 m3)] w (.one .bool) K :=
  fn_ok follows O_spec_l03Clique_1_ok Try.func105 name_spec_l03Clique body_spec_l03Clique Try.ntmps105 [x0, (.int .i64 c1), (.int .i64 set2), (.int .i64 m3)] (Eq.mpr (eq_spec_l03Clique x0 c1 set2 m3 w K) h)

-- uses S9CirM
theorem c_spec_l03Clique {x : Col} {c : Int} (hx : x.Ok) (n0 : 0 ≤ x.n) (n1 : x.n ≤ 17) :
    ∀ (m s : Nat) (w : World) (K : Bool → World → Prop), s < 2 ^ x.n.toNat → m ≤ 1000 → (∀ w', Below w.heap.size w w' → K (clqF (adjC x c) x.n.toNat m s.testBit) w') →
      Fc Try.prog F_spec_l03Clique #[x.val, .int .i64 c, .int .i64 (s : Int), .int .i64 (m : Int)] w (.one .bool) K
  | m, s, w, K, hs, hm, hK => by
    have hp17 : 2 ^ x.n.toNat ≤ 2 ^ 17 := Nat.pow_le_pow_right (by omega) (by omega)
    refine walk_spec_l03Clique _ _ _ _ (col_box fun b w1 m1 ax => ⟨fun h => ?_, fun h => ?_⟩)
    · have h := eq_t h
      have : m = 0 := by omega
      subst this
      exact hK w1 m1.below
    have h := eq_f h
    match m, hm, hK, h with
    | 0, _, _, h => exact absurd rfl h
    | m + 1, hm, hK, _ =>
    refine c_spec_l01Ones (by omega) ⟨fun h2 => ?_, fun _ => ?_⟩
    · have h2 := dec_t h2
      have := hK w1 m1.below
      rwa [show clqF (adjC x c) x.n.toNat (m + 1) s.testBit = false from by
        rw [Bool.eq_false_iff]
        intro hc
        have h3 := clqF_card _ hc
        rw [← onesN_bits, bitsN_of hs] at h3
        omega] at this
    have q1 := m1.below
    refine lp (fun t w' => Below w1.heap.size w1 w' ∧ ∃ i : Nat, t.2 = i ∧ i ≤ x.n.toNat ∧ t.1 = (bitsN (fromS s i) x.n.toNat : Nat) ∧ ∀ k, k < i → clqG (adjC x c) x.n.toNat m s.testBit k = false) (fun t _ => (17 - t.2).toNat)
      ⟨Below.refl _ _, 0, rfl, by omega, by simp only [fromS_0 hs], fun k hk => absurd hk (by omega)⟩ ?_
    rintro ⟨u, t⟩ w2 N ⟨q2, i, hi, hin, hu, hall⟩ hN
    simp only at hi hu
    subst hi; subst hu
    unfold B_spec_l03Clique_6
    dsimp only
    have q02 := q1.trans (q2.mono q1.size)
    have hbl := bitsN_lt (fromS s i) x.n.toNat
    refine col_n (ax.keep q2) ⟨fun hlt => ?_, fun hge => ?_⟩
    · have hlt := dec_t hlt
      refine int_u64 (by omega) (by omega) ⟨by omega, ?_⟩
      rw [wshr (by omega) (by omega), bit_iff0, testBit_bitsN]
      have e1 : (decide (i < x.n.toNat) && fromS s i i) = s.testBit i := by simp [fromS, show i < x.n.toNat by omega]
      rw [e1]
      refine ⟨fun hno => ?_, fun hyes => int_u64 (by omega) (by omega) ⟨by omega, ?_⟩⟩
      · have hno := not_t hno
        rw [wrap_small (by omega) (by omega)]
        refine hN _ _ ⟨q2, i + 1, by simp only; omega, by omega, by simp only [fromS_no hno], fun k hk => ?_⟩ (by simp only; omega)
        by_cases hki : k < i
        · exact hall k hki
        · have : k = i := by omega
          subst this
          simp [clqG, hno]
      have hyes := not_f hyes
      have htake := fromS_yes (s := s) (i := i) (n := x.n.toNat) hyes (by omega)
      have hbl2 := bitsN_lt (fromS s (i + 1)) x.n.toNat
      have hsub : IntKind.i64.wrap (((bitsN (fromS s i) x.n.toNat : Nat) : Int) - IntKind.i64.wrap (1 * 2 ^ min (Int.toNat (i : Int)) 64)) = ((bitsN (fromS s (i + 1)) x.n.toNat : Nat) : Int) := by
        rw [wshl' (by omega) (by omega), Int.toNat_natCast, htake]
        generalize 2 ^ i = T
        rw [wrap_small (by omega) (by omega)]
        omega
      rw [hsub]
      intro w3 hd3
      have q3 := q2.trans (hd3.below w1.heap.size)
      refine col_all hx (ax.keep q3) (col_all hx (ax.keep q3) (c_spec_l01Around hx (by omega) (by omega) n1 fun w4 q4 => ⟨q4, ?_⟩))
      have hbl3 := bitsN_lt (fun j => joinB x i j c) x.n.toNat
      rw [wand (by omega) (by omega) (by omega) (by omega), Int.toNat_natCast, Int.toNat_natCast, show IntKind.i64.wrap (((m + 1 : Nat) : Int) - 1) = (m : Int) from by rw [wrap_small (by omega) (by omega)]; omega]
      have hand : (bitsN (fromS s (i + 1)) x.n.toNat &&& bitsN (fun j => joinB x i j c) x.n.toNat) < 2 ^ x.n.toNat := Nat.lt_of_le_of_lt Nat.and_le_left hbl2
      refine c_spec_l03Clique hx n0 n1 m _ w4 _ hand (by omega) fun w5 q5 => ?_
      have hG : clqF (adjC x c) x.n.toNat m (bitsN (fromS s (i + 1)) x.n.toNat &&& bitsN (fun j => joinB x i j c) x.n.toNat).testBit = clqG (adjC x c) x.n.toNat m s.testBit i := by
        unfold clqG
        rw [hyes, Bool.true_and]
        refine clqF_congr fun j hj => ?_
        rw [Nat.testBit_and, testBit_bitsN, testBit_bitsN]
        simp only [hj, decide_true, Bool.true_and, fromS, adjC]
        rw [Bool.and_assoc]
        rfl
      rw [hG]
      have q45 := q4.trans (q5.mono q4.size)
      refine ⟨q45, fun hy => ?_, fun hn => ?_⟩
      · intro _
        have := hK w5 (q1.trans ((q3.trans (q45.mono q3.size)).mono q1.size))
        rwa [clqF_yes (by omega) hy] at this
      · rw [wrap_small (by omega) (by omega)]
        refine hN _ _ ⟨q3.trans (q45.mono q3.size), i + 1, by simp only; omega, by omega, rfl, fun k hk => ?_⟩ (by simp only; omega)
        by_cases hki : k < i
        · exact hall k hki
        · have : k = i := by omega
          subst this
          exact hn
    · have hge := dec_f hge
      have : i = x.n.toNat := by omega
      subst this
      intro _
      have := hK w2 q02
      rwa [clqF_no hall] at this

end Go.Proofs.Ytkadckhealbdaaa

/- The reading of spec_l03Avoids, and its contract. No condition. -/
namespace Go.Proofs.Ytkadckhealbdaaa
open Go Go.RowKit Eng Mem
set_option linter.unusedVariables false
set_option maxRecDepth 100000
def B_spec_l03Avoids_2 (sizes1 : Value) (x2 : Value) (c5 : Int) (N : (Value × Value) → Int → World → Prop) (D0 : (Unit) → World → Prop) (R : (Bool × Unit) → World → Prop) (w : World) : Prop :=
  (((decide (c5 < (2 : Int))) = true → (∀ w_3, Drew w w_3 → (QSub Try.prog (Instr.loadAt 25 x2) w_3 .any fun (x10_4 : Value) => (QSub Try.prog (Instr.loadAt 25 x2) w_3 .any fun (x12_5 : Value) => (QAll Try.prog (Instr.indexAt 31 sizes1 (.int .i64 c5)) .any fun (x17_6 : Value) => (QSub Try.prog (Instr.loadAt 2 x17_6) w_3 (.int .i64) fun (x18_7 : Int) => (Fc Try.prog 117 #[x12_5, (.int .i64 (0 : Int)), (.int .i64 c5)] w_3 (.one (.int .i64)) fun (x14_9 : Int) w_8 => (Keeps w_3 w_8 ((Fc Try.prog 105 #[x10_4, (.int .i64 c5), (.int .i64 x14_9), (.int .i64 (IntKind.i64.wrap (x18_7 - (1 : Int))))] w_8 (.one .bool) fun (x20_11 : Bool) w_10 => (Keeps w_3 w_10 (((x20_11 = true → R (false, ()) w_10) ∧ (x20_11 = false → N ((sizes1 : Value), (x2 : Value)) (IntKind.i64.wrap (c5 + (1 : Int))) w_10)))))))))))))) ∧ ((decide (c5 < (2 : Int))) = false → D0 () w))

abbrev L_spec_l03Avoids_2_e0 : List Slot := [.junk, .junk, .junk, .junk, .junk, .junk, .junk, .junk, .junk, .junk, .junk, .junk, .junk, .junk, .junk, .junk, .junk, .junk, .junk, .junk, .junk]

abbrev L_spec_l03Avoids_2_sp : List Slot := [.junk, .k .any, .k .any, .junk, .junk, .k (.int .i64), .junk, .junk, .junk, .junk, .junk, .junk, .junk, .junk, .junk, .junk, .junk, .junk, .junk, .junk, .junk]
abbrev L_spec_l03Avoids_2_ex : List (Nat × List Slot) := [(0, L_spec_l03Avoids_2_e0)]
abbrev L_spec_l03Avoids_2_rt : List Slot := [.junk, .junk, .junk, .junk, .k .bool, .junk, .junk, .junk, .junk, .junk, .junk, .junk, .junk, .junk, .junk, .junk, .junk, .junk, .junk, .junk, .junk]

def L_spec_l03Avoids_2_b (Φ : Post) (u : (Value × Value)) (N : (Value × Value) → Int → World → Prop) (s : Int) (w : World) : Prop :=
  B_spec_l03Avoids_2 u.1 u.2 s N (fun v w => ∀ j : Nat → Value, Φ (.exit 0) (mkT j 0 L_spec_l03Avoids_2_e0 v) w) (fun v w => ∀ j : Nat → Value, Φ .ret (mkT j 0 L_spec_l03Avoids_2_rt v) w) w

theorem L_spec_l03Avoids_2_eq (j : Nat → Value) (u : (Value × Value)) (s : Int) (N : (Value × Value) → Int → World → Prop) (D0 : (Unit) → World → Prop) (R : (Bool × Unit) → World → Prop) (w : World) :
    W Try.prog ty (fun _ _ _ _ => False) (loopAt Try.f101 2) (loopPost L_spec_l03Avoids_2_sp [(0, (⟨L_spec_l03Avoids_2_e0, D0⟩ : Door))] ⟨L_spec_l03Avoids_2_rt, R⟩ (fun v w => N ((fun v => (v.1, v.2.1)) v) ((fun v => v.2.2.1) v) w)) (mkT j 0 L_spec_l03Avoids_2_sp ((fun u s => (u.1, u.2, s, ())) u s)) w =
    B_spec_l03Avoids_2 u.1 u.2 s N D0 R w := by
  kernel_rfl

def O_spec_l03Avoids_1 : Code → Post → List SV → World → Prop :=
  orc 2 (loopAt Try.f101 2) L_spec_l03Avoids_2_sp (fun Φ fr w => LOOP (U := (Value × Value)) (S := Int) ((fun v => (v.1, v.2.1)) (extT L_spec_l03Avoids_2_sp fr)) (L_spec_l03Avoids_2_b Φ ((fun v => (v.1, v.2.1)) (extT L_spec_l03Avoids_2_sp fr))) ((fun v => v.2.2.1) (extT L_spec_l03Avoids_2_sp fr)) w) (fun _ _ _ _ => False)

theorem O_spec_l03Avoids_1_ok : Sound Try.prog O_spec_l03Avoids_1 :=
  orc_ok (sound_none _) fun Φ fr w hs h => loop_ok (ty := ty) follows (sound_none _) L_spec_l03Avoids_2_sp (fun v => (v.1, v.2.1)) (fun v => v.2.2.1) (fun u s => (u.1, u.2, s, ())) (fun _ => rfl) L_spec_l03Avoids_2_ex L_spec_l03Avoids_2_rt (body := L_spec_l03Avoids_2_b Φ) (fun j u s w N hb => by
    have e := L_spec_l03Avoids_2_eq j u s N (doorOf Φ (.exit 0) L_spec_l03Avoids_2_e0).D (doorOf Φ .ret L_spec_l03Avoids_2_rt).D w
    exact Eq.mpr e hb) hs h

def V_spec_l03Avoids (x0 : Value) (sizes1 : Value) (w : World) (K : Bool → World → Prop) : Prop :=
  (Pr Try.prog (Instr.box 25 x0) w (.one .any) fun (x2_2 : Value) w_1 => (At (loopAt Try.f101 2) (loopAt Try.f101 2) (LOOP (U := (Value × Value)) (S := Int) ((sizes1 : Value), (x2_2 : Value)) (fun N_18 s_19 w_20 => B_spec_l03Avoids_2 (sizes1 : Value) (x2_2 : Value) s_19 N_18 (fun (v_12 : (Unit)) w_13 => ∀ _j_14 : Nat → Value, K true w_13) (fun (v_15 : (Bool × Unit)) w_16 => ∀ _j_17 : Nat → Value, K v_15.1 w_16) w_20) (0 : Int) w_1)))

theorem eq_spec_l03Avoids (x0 : Value) (sizes1 : Value) (w : World) (K : Bool → World → Prop) :
    W Try.prog ty O_spec_l03Avoids_1 (bodyOf Try.f101) (fnPost Try.prog Try.f101.results.toList (.one .bool) K) (frame0 [x0, sizes1] 21) w = V_spec_l03Avoids x0 sizes1 w K := by
  kernel_rfl

theorem body_spec_l03Avoids : Try.f101.body = some (bodyOf Try.f101) := by kernel_rfl
theorem name_spec_l03Avoids : (Try.f101.name == "runtime.NumGoroutine") = false := by kernel_rfl

theorem walk_spec_l03Avoids (x0 : Value) (sizes1 : Value) {w : World} {K : Bool → World → Prop} (h : V_spec_l03Avoids x0 sizes1 w K) : Fc Try.prog 101 #[x0, sizes1] w (.one .bool) K :=
  fn_ok follows O_spec_l03Avoids_1_ok Try.func101 name_spec_l03Avoids body_spec_l03Avoids Try.ntmps101 [x0, sizes1] (Eq.mpr (eq_spec_l03Avoids x0 sizes1 w K) h)

-- uses S9CirM
theorem c_spec_l03Avoids {n b : Nat} {a : Value} {l : List Int} {w : World} {K : Bool → World → Prop} (h2 : 2 ≤ n) (h13 : n ≤ 13) (ha : SlI w a l) (hl : TwoIs l)
    (hK : ∀ w', Below w.heap.size w w' → K (okC n b l) w') : Fc Try.prog F_spec_l03Avoids #[(cirC n b).val, a] w (.one .bool) K := by
  have hok := cirC_ok h2 h13 b
  have hn : (cirC n b).n = n := rfl
  have hnt : (cirC n b).n.toNat = n := by rw [hn]; omega
  have hl2 := hl.1
  refine walk_spec_l03Avoids _ _ (col_box fun bx w1 m1 ax => ?_)
  have q1 := m1.below
  refine lp (fun c w' => Below w1.heap.size w1 w' ∧ ∃ k : Nat, c = k ∧ k ≤ 2 ∧ ∀ d : Nat, d < k → clqF (adjC (cirC n b) d) (cirC n b).n.toNat (l.getD d 0).toNat (fun _ => true) = false) (fun c _ => (17 - c).toNat) ⟨Below.refl _ _, 0, rfl, by omega, fun d hd => absurd hd (by omega)⟩ ?_
  rintro c w2 N ⟨q2, k, hk, hk2, hall⟩ hN
  subst hk
  unfold B_spec_l03Avoids_2
  refine ⟨fun hlt => ?_, fun hge => ?_⟩
  · have hlt := dec_t hlt
    intro w3 hd3
    have q3 := q2.trans (hd3.below w1.heap.size)
    have hin := hl.2.get (i := k) (by omega)
    obtain ⟨m, hm⟩ : ∃ m : Nat, l.getD k 0 = (m + 1 : Nat) := ⟨(l.getD k 0 - 1).toNat, by omega⟩
    refine col_all hok (ax.keep q3) (col_all hok (ax.keep q3) (atI ((ha.keep q1).keep q3) (by omega) (by omega) ?_))
    rw [Int.toNat_natCast, hm]
    refine c_spec_l01Around hok (by omega) (by omega) (by rw [hn]; omega) fun w4 q4 => ⟨q4, ?_⟩
    rw [show IntKind.i64.wrap (((m + 1 : Nat) : Int) - 1) = (m : Int) from by rw [wrap_small (by omega) (by omega)]; omega]
    refine c_spec_l03Clique (x := cirC n b) (c := (k : Int)) hok (by rw [hn]; omega) (by rw [hn]; omega) m _ w4 _ (bitsN_lt _ _) (by omega) fun w5 q5 => ?_
    have q45 := q4.trans (q5.mono q4.size)
    have heq : clqF (adjC (cirC n b) k) (cirC n b).n.toNat m (bitsN (fun j => joinB (cirC n b) 0 j k) (cirC n b).n.toNat).testBit = clqF (adjC (cirC n b) k) (cirC n b).n.toNat (l.getD k 0).toNat (fun _ => true) := by
      rw [hm, Int.toNat_natCast, hnt, cir_clq h2 h13 b k m]
      exact clqF_congr fun j hj => by rw [testBit_bitsN]; simp [hj]
    rw [heq]
    have q05 := q1.trans ((q3.trans (q45.mono q3.size)).mono q1.size)
    refine ⟨q45, fun hy => ?_, fun hno => ?_⟩
    · intro _
      have := hK w5 q05
      rwa [show okC n b l = false from decide_eq_false fun h => by rw [h k (by omega)] at hy; cases hy] at this
    · rw [wrap_small (by omega) (by omega)]
      refine hN _ _ ⟨q3.trans (q45.mono q3.size), k + 1, by omega, by omega, fun d hd => ?_⟩ (by omega)
      by_cases hdk : d < k
      · exact hall d hdk
      · have : d = k := by omega
        subst this
        exact hno
  · have hge := dec_f hge
    have : k = 2 := by omega
    subst this
    intro _
    have := hK w2 (q1.trans (q2.mono q1.size))
    rwa [show okC n b l = true from decide_eq_true fun d hd => hall d (by omega)] at this

end Go.Proofs.Ytkadckhealbdaaa

/- The reading of spec_l03Distance, and its contract. No condition. -/
namespace Go.Proofs.Ytkadckhealbdaaa
open Go Go.RowKit Eng Mem
set_option linter.unusedVariables false
set_option maxRecDepth 100000
def V_spec_l03Distance (i0 : Int) (j1 : Int) (n2 : Int) (w : World) (K : Int → World → Prop) : Prop :=
  (QAll Try.prog (Builtin.max_ #[2, 2] 2 #[(.int .i64 i0), (.int .i64 j1)]) (.int .i64) fun (x10_1 : Int) => (QAll Try.prog (Builtin.min_ #[2, 2] 2 #[(.int .i64 i0), (.int .i64 j1)]) (.int .i64) fun (x13_2 : Int) => (QAll Try.prog (Builtin.min_ #[2, 2] 2 #[(.int .i64 (IntKind.i64.wrap (x10_1 - x13_2))), (.int .i64 (IntKind.i64.wrap (n2 - (IntKind.i64.wrap (x10_1 - x13_2)))))]) (.int .i64) fun (x19_3 : Int) => K x19_3 w)))

theorem eq_spec_l03Distance (i0 : Int) (j1 : Int) (n2 : Int) (w : World) (K : Int → World → Prop) :
    W Try.prog ty (fun _ _ _ _ => False) (bodyOf Try.f131) (fnPost Try.prog Try.f131.results.toList (.one (.int .i64)) K) (frame0 [(.int .i64 i0), (.int .i64 j1), (.int .i64 n2)] 20) w = V_spec_l03Distance i0 j1 n2 w K := by
  kernel_rfl

theorem body_spec_l03Distance : Try.f131.body = some (bodyOf Try.f131) := by kernel_rfl
theorem name_spec_l03Distance : (Try.f131.name == "runtime.NumGoroutine") = false := by kernel_rfl

theorem walk_spec_l03Distance (i0 : Int) (j1 : Int) (n2 : Int) {w : World} {K : Int → World → Prop} (h : V_spec_l03Distance i0 j1 n2 w K) : Fc Try.prog 131 #[(.int .i64 i0), (.int .i64 j1), (.int .i64 n2)] w (.one (.int .i64)) K :=
  fn_ok follows (sound_none _) Try.func131 name_spec_l03Distance body_spec_l03Distance Try.ntmps131 [(.int .i64 i0), (.int .i64 j1), (.int .i64 n2)] (Eq.mpr (eq_spec_l03Distance i0 j1 n2 w K) h)

-- uses S6Pair
theorem c_spec_l03Distance {i j n : Int} {w : World} {K : Int → World → Prop} (h0 : 0 ≤ i) (h1 : i < j) (h2 : j < n) (h3 : n ≤ 17) (hK : K (dist n i j) w) : Fc Try.prog F_spec_l03Distance #[.int .i64 i, .int .i64 j, .int .i64 n] w (.one (.int .i64)) K := by
  refine walk_spec_l03Distance _ _ _ (mx (mn (mn ?_)))
  rw [if_pos (show j > i from h1), if_neg (show ¬ j < i by omega), wrap_small (n := j - i) (by omega) (by omega), wrap_small (by omega) (by omega)]
  unfold dist at hK
  by_cases h : j - i ≤ n - (j - i)
  · rw [if_pos h] at hK
    rwa [if_neg (by omega)]
  · rw [if_neg h] at hK
    rwa [if_pos (by omega)]

end Go.Proofs.Ytkadckhealbdaaa

/- The reading of spec_l03Circular, and its contract. No condition. -/
namespace Go.Proofs.Ytkadckhealbdaaa
open Go Go.RowKit Eng Mem
set_option linter.unusedVariables false
set_option maxRecDepth 100000
def B_spec_l03Circular_6 (n0 : Int) (list2 : Value) (x6 : Value) (out7 : Value) (j8 : Int) (i9 : Int) (N : (Int × Value × Value × Value × Int) → Int → World → Prop) (D2 : (Int × Value × Value × Value × Int × Unit) → World → Prop) (w : World) : Prop :=
  (((decide (i9 < j8)) = true → (Fc Try.prog 128 #[(.int .i64 i9), (.int .i64 j8)] w (.one (.int .i64)) fun (x25_10 : Int) w_9 => (Fc Try.prog 131 #[(.int .i64 i9), (.int .i64 j8), (.int .i64 n0)] w_9 (.one (.int .i64)) fun (x30_12 : Int) w_11 => (QAll Try.prog (Instr.indexAt 31 list2 (.int .i64 (IntKind.i64.wrap (x30_12 - (1 : Int))))) .any fun (x32_13 : Value) => (QSub Try.prog (Instr.loadAt 2 x32_13) w_11 (.int .i64) fun (x33_14 : Int) => (QAll Try.prog (convert 2 5 (.int .i64 x33_14)) (.int .u8) fun (x34_15 : Int) => (QAll Try.prog (Instr.fieldAt 25 out7 2) .any fun (x35_16 : Value) => (QAll Try.prog (Instr.indexAt 22 x35_16 (.int .i64 x25_10)) .any fun (x36_17 : Value) => (PrU Try.prog (Instr.storeAt 5 x36_17 (.int .u8 x34_15)) w_11 fun w_18 => N (n0, (list2 : Value), (x6 : Value), (out7 : Value), j8) (IntKind.i64.wrap (i9 + (1 : Int))) w_18))))))))) ∧ ((decide (i9 < j8)) = false → D2 (n0, (list2 : Value), (x6 : Value), (out7 : Value), j8, ()) w))

abbrev L_spec_l03Circular_6_e2 : List Slot := [.k (.int .i64), .junk, .k .any, .junk, .junk, .junk, .k .any, .k .any, .k (.int .i64), .junk, .junk, .junk, .junk, .junk, .junk, .junk, .junk, .junk, .junk, .junk, .junk, .junk, .junk, .junk, .junk, .junk, .junk, .junk, .junk, .junk, .junk, .junk, .junk, .junk, .junk, .junk, .junk, .junk]

abbrev L_spec_l03Circular_6_sp : List Slot := [.k (.int .i64), .junk, .k .any, .junk, .junk, .junk, .k .any, .k .any, .k (.int .i64), .k (.int .i64), .junk, .junk, .junk, .junk, .junk, .junk, .junk, .junk, .junk, .junk, .junk, .junk, .junk, .junk, .junk, .junk, .junk, .junk, .junk, .junk, .junk, .junk, .junk, .junk, .junk, .junk, .junk, .junk]
abbrev L_spec_l03Circular_6_ex : List (Nat × List Slot) := [(2, L_spec_l03Circular_6_e2)]
abbrev L_spec_l03Circular_6_rt : List Slot := [.junk, .junk, .junk, .junk, .junk, .junk, .junk, .junk, .junk, .junk, .junk, .junk, .junk, .junk, .junk, .junk, .junk, .junk, .junk, .junk, .junk, .junk, .junk, .junk, .junk, .junk, .junk, .junk, .junk, .junk, .junk, .junk, .junk, .junk, .junk, .junk, .junk, .junk]

def L_spec_l03Circular_6_b (Φ : Post) (u : (Int × Value × Value × Value × Int)) (N : (Int × Value × Value × Value × Int) → Int → World → Prop) (s : Int) (w : World) : Prop :=
  B_spec_l03Circular_6 u.1 u.2.1 u.2.2.1 u.2.2.2.1 u.2.2.2.2 s N (fun v w => ∀ j : Nat → Value, Φ (.exit 2) (mkT j 0 L_spec_l03Circular_6_e2 v) w) w

theorem L_spec_l03Circular_6_eq (j : Nat → Value) (u : (Int × Value × Value × Value × Int)) (s : Int) (N : (Int × Value × Value × Value × Int) → Int → World → Prop) (D2 : (Int × Value × Value × Value × Int × Unit) → World → Prop) (R : (Unit) → World → Prop) (w : World) :
    W Try.prog ty (fun _ _ _ _ => False) (loopAt Try.f110 6) (loopPost L_spec_l03Circular_6_sp [(2, (⟨L_spec_l03Circular_6_e2, D2⟩ : Door))] ⟨L_spec_l03Circular_6_rt, R⟩ (fun v w => N ((fun v => (v.1, v.2.1, v.2.2.1, v.2.2.2.1, v.2.2.2.2.1)) v) ((fun v => v.2.2.2.2.2.1) v) w)) (mkT j 0 L_spec_l03Circular_6_sp ((fun u s => (u.1, u.2.1, u.2.2.1, u.2.2.2.1, u.2.2.2.2, s, ())) u s)) w =
    B_spec_l03Circular_6 u.1 u.2.1 u.2.2.1 u.2.2.2.1 u.2.2.2.2 s N D2 w := by
  kernel_rfl

def O_spec_l03Circular_1 : Code → Post → List SV → World → Prop :=
  orc 6 (loopAt Try.f110 6) L_spec_l03Circular_6_sp (fun Φ fr w => LOOP (U := (Int × Value × Value × Value × Int)) (S := Int) ((fun v => (v.1, v.2.1, v.2.2.1, v.2.2.2.1, v.2.2.2.2.1)) (extT L_spec_l03Circular_6_sp fr)) (L_spec_l03Circular_6_b Φ ((fun v => (v.1, v.2.1, v.2.2.1, v.2.2.2.1, v.2.2.2.2.1)) (extT L_spec_l03Circular_6_sp fr))) ((fun v => v.2.2.2.2.2.1) (extT L_spec_l03Circular_6_sp fr)) w) (fun _ _ _ _ => False)

theorem O_spec_l03Circular_1_ok : Sound Try.prog O_spec_l03Circular_1 :=
  orc_ok (sound_none _) fun Φ fr w hs h => loop_ok (ty := ty) follows (sound_none _) L_spec_l03Circular_6_sp (fun v => (v.1, v.2.1, v.2.2.1, v.2.2.2.1, v.2.2.2.2.1)) (fun v => v.2.2.2.2.2.1) (fun u s => (u.1, u.2.1, u.2.2.1, u.2.2.2.1, u.2.2.2.2, s, ())) (fun _ => rfl) L_spec_l03Circular_6_ex L_spec_l03Circular_6_rt (body := L_spec_l03Circular_6_b Φ) (fun j u s w N hb => by
    have e := L_spec_l03Circular_6_eq j u s N (doorOf Φ (.exit 2) L_spec_l03Circular_6_e2).D (doorOf Φ .ret L_spec_l03Circular_6_rt).D w
    exact Eq.mpr e hb) hs h

def B_spec_l03Circular_3 (n0 : Int) (list2 : Value) (x6 : Value) (out7 : Value) (j8 : Int) (N : (Int × Value × Value × Value) → Int → World → Prop) (D0 : (Value × Value × Unit) → World → Prop) (w : World) : Prop :=
  (((decide (j8 < n0)) = true → (At (loopAt Try.f110 6) (loopAt Try.f110 6) (LOOP (U := (Int × Value × Value × Value × Int)) (S := Int) (n0, (list2 : Value), (x6 : Value), (out7 : Value), j8) (fun N_23 s_24 w_25 => B_spec_l03Circular_6 n0 (list2 : Value) (x6 : Value) (out7 : Value) j8 s_24 N_23 (fun (v_20 : (Int × Value × Value × Value × Int × Unit)) w_21 => ∀ _j_22 : Nat → Value, N (v_20.1, (v_20.2.1 : Value), (v_20.2.2.1 : Value), (v_20.2.2.2.1 : Value)) (IntKind.i64.wrap (v_20.2.2.2.2.1 + (1 : Int))) w_21) w_25) (0 : Int) w))) ∧ ((decide (j8 < n0)) = false → D0 ((x6 : Value), (out7 : Value), ()) w))

abbrev L_spec_l03Circular_3_e0 : List Slot := [.junk, .junk, .junk, .junk, .junk, .junk, .k .any, .k .any, .junk, .junk, .junk, .junk, .junk, .junk, .junk, .junk, .junk, .junk, .junk, .junk, .junk, .junk, .junk, .junk, .junk, .junk, .junk, .junk, .junk, .junk, .junk, .junk, .junk, .junk, .junk, .junk, .junk, .junk]

abbrev L_spec_l03Circular_3_sp : List Slot := [.k (.int .i64), .junk, .k .any, .junk, .junk, .junk, .k .any, .k .any, .k (.int .i64), .junk, .junk, .junk, .junk, .junk, .junk, .junk, .junk, .junk, .junk, .junk, .junk, .junk, .junk, .junk, .junk, .junk, .junk, .junk, .junk, .junk, .junk, .junk, .junk, .junk, .junk, .junk, .junk, .junk]
abbrev L_spec_l03Circular_3_ex : List (Nat × List Slot) := [(0, L_spec_l03Circular_3_e0)]
abbrev L_spec_l03Circular_3_rt : List Slot := [.junk, .junk, .junk, .junk, .junk, .junk, .junk, .junk, .junk, .junk, .junk, .junk, .junk, .junk, .junk, .junk, .junk, .junk, .junk, .junk, .junk, .junk, .junk, .junk, .junk, .junk, .junk, .junk, .junk, .junk, .junk, .junk, .junk, .junk, .junk, .junk, .junk, .junk]

def L_spec_l03Circular_3_b (Φ : Post) (u : (Int × Value × Value × Value)) (N : (Int × Value × Value × Value) → Int → World → Prop) (s : Int) (w : World) : Prop :=
  B_spec_l03Circular_3 u.1 u.2.1 u.2.2.1 u.2.2.2 s N (fun v w => ∀ j : Nat → Value, Φ (.exit 0) (mkT j 0 L_spec_l03Circular_3_e0 v) w) w

theorem L_spec_l03Circular_3_eq (j : Nat → Value) (u : (Int × Value × Value × Value)) (s : Int) (N : (Int × Value × Value × Value) → Int → World → Prop) (D0 : (Value × Value × Unit) → World → Prop) (R : (Unit) → World → Prop) (w : World) :
    W Try.prog ty O_spec_l03Circular_1 (loopAt Try.f110 3) (loopPost L_spec_l03Circular_3_sp [(0, (⟨L_spec_l03Circular_3_e0, D0⟩ : Door))] ⟨L_spec_l03Circular_3_rt, R⟩ (fun v w => N ((fun v => (v.1, v.2.1, v.2.2.1, v.2.2.2.1)) v) ((fun v => v.2.2.2.2.1) v) w)) (mkT j 0 L_spec_l03Circular_3_sp ((fun u s => (u.1, u.2.1, u.2.2.1, u.2.2.2, s, ())) u s)) w =
    B_spec_l03Circular_3 u.1 u.2.1 u.2.2.1 u.2.2.2 s N D0 w := by
  kernel_rfl

def O_spec_l03Circular_2 : Code → Post → List SV → World → Prop :=
  orc 3 (loopAt Try.f110 3) L_spec_l03Circular_3_sp (fun Φ fr w => LOOP (U := (Int × Value × Value × Value)) (S := Int) ((fun v => (v.1, v.2.1, v.2.2.1, v.2.2.2.1)) (extT L_spec_l03Circular_3_sp fr)) (L_spec_l03Circular_3_b Φ ((fun v => (v.1, v.2.1, v.2.2.1, v.2.2.2.1)) (extT L_spec_l03Circular_3_sp fr))) ((fun v => v.2.2.2.2.1) (extT L_spec_l03Circular_3_sp fr)) w) O_spec_l03Circular_1

theorem O_spec_l03Circular_2_ok : Sound Try.prog O_spec_l03Circular_2 :=
  orc_ok O_spec_l03Circular_1_ok fun Φ fr w hs h => loop_ok (ty := ty) follows O_spec_l03Circular_1_ok L_spec_l03Circular_3_sp (fun v => (v.1, v.2.1, v.2.2.1, v.2.2.2.1)) (fun v => v.2.2.2.2.1) (fun u s => (u.1, u.2.1, u.2.2.1, u.2.2.2, s, ())) (fun _ => rfl) L_spec_l03Circular_3_ex L_spec_l03Circular_3_rt (body := L_spec_l03Circular_3_b Φ) (fun j u s w N hb => by
    have e := L_spec_l03Circular_3_eq j u s N (doorOf Φ (.exit 0) L_spec_l03Circular_3_e0).D (doorOf Φ .ret L_spec_l03Circular_3_rt).D w
    exact Eq.mpr e hb) hs h

def V_spec_l03Circular (n0 : Int) (k1 : Int) (list2 : Value) (w : World) (K : Value → World → Prop) : Prop :=
  (Pr Try.prog (Instr.alloc 25 true (.tuple #[])) w (.one .any) fun (x6_2 : Value) w_1 => (Pr Try.prog (Instr.build 25 #[(0, (.int .i64 n0)), (1, (.int .i64 k1))]) w_1 (.one .any) fun (x12_4 : Value) w_3 => (Pr Try.prog (Instr.alloc 25 true (.tuple #[])) w_3 (.one .any) fun (out7_6 : Value) w_5 => (PrU Try.prog (Instr.storeAt 25 out7_6 x12_4) w_5 fun w_7 => (At (loopAt Try.f110 3) (loopAt Try.f110 3) (LOOP (U := (Int × Value × Value × Value)) (S := Int) (n0, (list2 : Value), (x6_2 : Value), (out7_6 : Value)) (fun N_33 s_34 w_35 => B_spec_l03Circular_3 n0 (list2 : Value) (x6_2 : Value) (out7_6 : Value) s_34 N_33 (fun (v_26 : (Value × Value × Unit)) w_27 => ∀ _j_28 : Nat → Value, (QSub Try.prog (Instr.loadAt 25 v_26.2.1) w_27 .any fun (x37_29 : Value) => (PrU Try.prog (Instr.storeAt 25 v_26.1 x37_29) w_27 fun w_30 => (QSub Try.prog (Instr.loadAt 25 v_26.1) w_30 .any fun (r_32 : Value) => K (r_32 : Value) w_30)))) w_35) (1 : Int) w_7))))))

theorem eq_spec_l03Circular (n0 : Int) (k1 : Int) (list2 : Value) (w : World) (K : Value → World → Prop) :
    W Try.prog ty O_spec_l03Circular_2 (bodyOf Try.f110) (fnPost Try.prog Try.f110.results.toList (.one .any) K) (frame0 [(.int .i64 n0), (.int .i64 k1), list2] 38) w = V_spec_l03Circular n0 k1 list2 w K := by
  kernel_rfl

theorem body_spec_l03Circular : Try.f110.body = some (bodyOf Try.f110) := by kernel_rfl
theorem name_spec_l03Circular : (Try.f110.name == "runtime.NumGoroutine") = false := by kernel_rfl

theorem walk_spec_l03Circular (n0 : Int) (k1 : Int) (list2 : Value) {w : World} {K : Value → World → Prop} (h : V_spec_l03Circular n0 k1 list2 w K) : Fc Try.prog 110 #[(.int .i64 n0), (.int .i64 k1), list2] w (.one .any) K :=
  fn_ok follows O_spec_l03Circular_2_ok Try.func110 name_spec_l03Circular body_spec_l03Circular Try.ntmps110 [(.int .i64 n0), (.int .i64 k1), list2] (Eq.mpr (eq_spec_l03Circular n0 k1 list2 w K) h)

-- uses S6Tri
theorem c_spec_l03Circular {n k : Int} {a : Value} {l : List Int} {w : World} {K : Value → World → Prop} (n0 : 1 ≤ n) (n1 : n ≤ 17) (hk : I64 k) (ha : SlI w a l) (hl : (l.length : Int) = n / 2) (hin : AllIn l 0 255)
    (hok : (colG n k fun i j => l.getD (dist n i j - 1).toNat 0).Ok) (hK : ∀ w', Below w.heap.size w w' → K (colG n k fun i j => l.getD (dist n i j - 1).toNat 0).val w') :
    Fc Try.prog F_spec_l03Circular #[.int .i64 n, .int .i64 k, a] w (.one .any) K := by
  refine walk_spec_l03Circular _ _ _ (tri_start (fun i j => l.getD (dist n i j - 1).toNat 0) fun p b w1 ht => ?_)
  refine lp (fun j w' => 1 ≤ j ∧ j ≤ n ∧ Tri w w' p b n k (fun i j => l.getD (dist n i j - 1).toNat 0) (edgesOf j)) (fun j _ => (n - j).toNat) ⟨by omega, by omega, ht⟩ ?_
  rintro j w2 N ⟨j0, j1, h2⟩ hN
  unfold B_spec_l03Circular_3
  refine ⟨fun hlt => ?_, fun hge => ?_⟩
  · have hlt := dec_t hlt
    refine lp (fun i w' => 0 ≤ i ∧ i ≤ j ∧ Tri w w' p b n k (fun i j => l.getD (dist n i j - 1).toNat 0) (edgesOf j + i)) (fun i _ => (j - i).toNat) ⟨by omega, by omega, by rw [Int.add_zero]; exact h2⟩ ?_
    rintro i w3 N' ⟨i0, i1, h3⟩ hN'
    unfold B_spec_l03Circular_6
    refine ⟨fun hlt2 => ?_, fun hge2 => ?_⟩
    · have hlt2 := dec_t hlt2
      have hd := dist_bd i0 hlt2 hlt
      refine c_spec_l01Edge i0 (by omega) (by omega) (by omega) (c_spec_l03Distance i0 hlt2 hlt n1 ?_)
      rw [wrap_small (by omega) (by omega)]
      have hx := hin.get (i := (dist n i j - 1).toNat) (by omega)
      refine atI (ha.keep h3.bel) (by omega) (by omega) (int_u8 hx.1 (by omega) (fldp f2 (h3.put i0 hlt2 (by omega) fun w4 h4 => ?_)))
      rw [wrap_small (by omega) (by omega)]
      exact hN' _ _ ⟨by omega, by omega, h4⟩ (by omega)
    · have hge2 := dec_f hge2
      have : i = j := by omega
      subst this
      intro _
      show N _ (IntKind.i64.wrap (i + 1)) w3
      rw [wrap_small (by omega) (by omega)]
      exact hN _ _ ⟨by omega, by omega, by rw [edgesOf_succ]; exact h3⟩ (by omega)
  · have hge := dec_f hge
    have : j = n := by omega
    subst this
    intro _
    exact tri_end hok h2 hK

end Go.Proofs.Ytkadckhealbdaaa

/- The reading of spec_l03Number, and its contract. No condition. -/
namespace Go.Proofs.Ytkadckhealbdaaa
open Go Go.RowKit Eng Mem
set_option linter.unusedVariables false
set_option maxRecDepth 100000
def B_spec_l03Number_3 (n0 : Int) (number1 : Int) (x4 : Value) (h6 : Int) (list5 : Value) (d7 : Int) (N : (Int × Int × Value × Int) → (Value × Int) → World → Prop) (D0 : (Int × Value × Value × Unit) → World → Prop) (w : World) : Prop :=
  (((decide (d7 ≤ h6)) = true → (QAll Try.prog (convert 2 102 (.int .i64 (IntKind.i64.wrap (h6 - d7)))) (.int .u64) fun (x21_5 : Int) => (0 ≤ x21_5 ∧ (Pr Try.prog (Instr.buildSlice 31 1 #[(0, (.int .i64 (IntKind.i64.wrap ((BitVec.toNat (BitVec.ofInt (IntKind.bits .i64) (Int.fdiv number1 (2 ^ min (Int.toNat x21_5) 64)) &&& BitVec.ofInt (IntKind.bits .i64) (1 : Int)) : Nat)))))]) w (.one .any) fun (x24_7 : Value) w_6 => (Pr Try.prog (Builtin.append_ #[31, 31] 31 #[list5, x24_7]) w_6 (.one .any) fun (x25_9 : Value) w_8 => N (n0, number1, (x4 : Value), h6) ((x25_9 : Value), (IntKind.i64.wrap (d7 + (1 : Int)))) w_8))))) ∧ ((decide (d7 ≤ h6)) = false → D0 (n0, (x4 : Value), (list5 : Value), ()) w))

abbrev L_spec_l03Number_3_e0 : List Slot := [.k (.int .i64), .junk, .junk, .junk, .k .any, .k .any, .junk, .junk, .junk, .junk, .junk, .junk, .junk, .junk, .junk, .junk, .junk, .junk, .junk, .junk, .junk, .junk, .junk, .junk, .junk, .junk, .junk, .junk, .junk]

abbrev L_spec_l03Number_3_sp : List Slot := [.k (.int .i64), .k (.int .i64), .junk, .junk, .k .any, .k .any, .k (.int .i64), .k (.int .i64), .junk, .junk, .junk, .junk, .junk, .junk, .junk, .junk, .junk, .junk, .junk, .junk, .junk, .junk, .junk, .junk, .junk, .junk, .junk, .junk, .junk]
abbrev L_spec_l03Number_3_ex : List (Nat × List Slot) := [(0, L_spec_l03Number_3_e0)]
abbrev L_spec_l03Number_3_rt : List Slot := [.junk, .junk, .junk, .junk, .junk, .junk, .junk, .junk, .junk, .junk, .junk, .junk, .junk, .junk, .junk, .junk, .junk, .junk, .junk, .junk, .junk, .junk, .junk, .junk, .junk, .junk, .junk, .junk, .junk]

def L_spec_l03Number_3_b (Φ : Post) (u : (Int × Int × Value × Int)) (N : (Int × Int × Value × Int) → (Value × Int) → World → Prop) (s : (Value × Int)) (w : World) : Prop :=
  B_spec_l03Number_3 u.1 u.2.1 u.2.2.1 u.2.2.2 s.1 s.2 N (fun v w => ∀ j : Nat → Value, Φ (.exit 0) (mkT j 0 L_spec_l03Number_3_e0 v) w) w

theorem L_spec_l03Number_3_eq (j : Nat → Value) (u : (Int × Int × Value × Int)) (s : (Value × Int)) (N : (Int × Int × Value × Int) → (Value × Int) → World → Prop) (D0 : (Int × Value × Value × Unit) → World → Prop) (R : (Unit) → World → Prop) (w : World) :
    W Try.prog ty (fun _ _ _ _ => False) (loopAt Try.f81 3) (loopPost L_spec_l03Number_3_sp [(0, (⟨L_spec_l03Number_3_e0, D0⟩ : Door))] ⟨L_spec_l03Number_3_rt, R⟩ (fun v w => N ((fun v => (v.1, v.2.1, v.2.2.1, v.2.2.2.2.1)) v) ((fun v => (v.2.2.2.1, v.2.2.2.2.2.1)) v) w)) (mkT j 0 L_spec_l03Number_3_sp ((fun u s => (u.1, u.2.1, u.2.2.1, s.1, u.2.2.2, s.2, ())) u s)) w =
    B_spec_l03Number_3 u.1 u.2.1 u.2.2.1 u.2.2.2 s.1 s.2 N D0 w := by
  kernel_rfl

def O_spec_l03Number_1 : Code → Post → List SV → World → Prop :=
  orc 3 (loopAt Try.f81 3) L_spec_l03Number_3_sp (fun Φ fr w => LOOP (U := (Int × Int × Value × Int)) (S := (Value × Int)) ((fun v => (v.1, v.2.1, v.2.2.1, v.2.2.2.2.1)) (extT L_spec_l03Number_3_sp fr)) (L_spec_l03Number_3_b Φ ((fun v => (v.1, v.2.1, v.2.2.1, v.2.2.2.2.1)) (extT L_spec_l03Number_3_sp fr))) ((fun v => (v.2.2.2.1, v.2.2.2.2.2.1)) (extT L_spec_l03Number_3_sp fr)) w) (fun _ _ _ _ => False)

theorem O_spec_l03Number_1_ok : Sound Try.prog O_spec_l03Number_1 :=
  orc_ok (sound_none _) fun Φ fr w hs h => loop_ok (ty := ty) follows (sound_none _) L_spec_l03Number_3_sp (fun v => (v.1, v.2.1, v.2.2.1, v.2.2.2.2.1)) (fun v => (v.2.2.2.1, v.2.2.2.2.2.1)) (fun u s => (u.1, u.2.1, u.2.2.1, s.1, u.2.2.2, s.2, ())) (fun _ => rfl) L_spec_l03Number_3_ex L_spec_l03Number_3_rt (body := L_spec_l03Number_3_b Φ) (fun j u s w N hb => by
    have e := L_spec_l03Number_3_eq j u s N (doorOf Φ (.exit 0) L_spec_l03Number_3_e0).D (doorOf Φ .ret L_spec_l03Number_3_rt).D w
    exact Eq.mpr e hb) hs h

def V_spec_l03Number (n0 : Int) (number1 : Int) (w : World) (K : Value → World → Prop) : Prop :=
  (Pr Try.prog (Instr.alloc 25 true (.tuple #[])) w (.one .any) fun (x4_2 : Value) w_1 => (Pr Try.prog (Instr.buildSlice 31 0 #[]) w_1 (.one .any) fun (x8_4 : Value) w_3 => ((2 : Int) ≠ 0 ∧ (At (loopAt Try.f81 3) (loopAt Try.f81 3) (LOOP (U := (Int × Int × Value × Int)) (S := (Value × Int)) (n0, number1, (x4_2 : Value), (IntKind.i64.wrap (Int.tdiv n0 (2 : Int)))) (fun N_18 s_19 w_20 => B_spec_l03Number_3 n0 number1 (x4_2 : Value) (IntKind.i64.wrap (Int.tdiv n0 (2 : Int))) s_19.1 s_19.2 N_18 (fun (v_10 : (Int × Value × Value × Unit)) w_11 => ∀ _j_12 : Nat → Value, (Fc Try.prog 110 #[(.int .i64 v_10.1), (.int .i64 (2 : Int)), v_10.2.2.1] w_11 (.one .any) fun (x28_14 : Value) w_13 => (PrU Try.prog (Instr.storeAt 25 v_10.2.1 x28_14) w_13 fun w_15 => (QSub Try.prog (Instr.loadAt 25 v_10.2.1) w_15 .any fun (r_17 : Value) => K (r_17 : Value) w_15)))) w_20) ((x8_4 : Value), (1 : Int)) w_3)))))

theorem eq_spec_l03Number (n0 : Int) (number1 : Int) (w : World) (K : Value → World → Prop) :
    W Try.prog ty O_spec_l03Number_1 (bodyOf Try.f81) (fnPost Try.prog Try.f81.results.toList (.one .any) K) (frame0 [(.int .i64 n0), (.int .i64 number1)] 29) w = V_spec_l03Number n0 number1 w K := by
  kernel_rfl

theorem body_spec_l03Number : Try.f81.body = some (bodyOf Try.f81) := by kernel_rfl
theorem name_spec_l03Number : (Try.f81.name == "runtime.NumGoroutine") = false := by kernel_rfl

theorem walk_spec_l03Number (n0 : Int) (number1 : Int) {w : World} {K : Value → World → Prop} (h : V_spec_l03Number n0 number1 w K) : Fc Try.prog 81 #[(.int .i64 n0), (.int .i64 number1)] w (.one .any) K :=
  fn_ok follows O_spec_l03Number_1_ok Try.func81 name_spec_l03Number body_spec_l03Number Try.ntmps81 [(.int .i64 n0), (.int .i64 number1)] (Eq.mpr (eq_spec_l03Number n0 number1 w K) h)

-- uses S9CirM
theorem digL'_eq (h b : Nat) : digL' h b h = digL h b := rfl
theorem c_spec_l03Number {n b : Nat} {w : World} {K : Value → World → Prop} (h2 : 2 ≤ n) (h13 : n ≤ 13) (hb : b < 2 ^ 62) (hK : ∀ w', Below w.heap.size w w' → K (cirC n b).val w') : Fc Try.prog F_spec_l03Number #[.int .i64 (n : Int), .int .i64 (b : Int)] w (.one .any) K := by
  have hhn : IntKind.i64.wrap (Int.tdiv (n : Int) 2) = ((n / 2 : Nat) : Int) := by
    rw [Int.tdiv_eq_ediv_of_nonneg (by omega), wrap_small (by omega) (by omega)]; omega
  refine walk_spec_l03Number _ _ (c_alloc fun p w1 q1 hv => nilI fun b0 v0 w2 e0 q2 o0 => ⟨by decide, ?_⟩)
  rw [hhn]
  obtain ⟨h, hh⟩ : ∃ h, n / 2 = h := ⟨_, rfl⟩
  rw [hh]
  have hh6 : h ≤ 6 := by omega
  have hs1 := q1.size; have hs2 := q2.size
  refine lp (fun s w' => Below w1.heap.size w1 w' ∧ ∃ (t c : Nat), s.2 = (t : Int) + 1 ∧ t ≤ h ∧ w1.heap.size ≤ c ∧ OwnI w' c s.1 (digL' h b t)) (fun s _ => (17 - s.2).toNat) ⟨q2, 0, b0, rfl, by omega, by omega, o0⟩ ?_
  rintro ⟨v, t'⟩ w3 N ⟨q3, t, c, ht, hth, hc, ho⟩ hN
  simp only at ht ho
  subst ht
  unfold B_spec_l03Number_3
  dsimp only
  have hs3 := q3.size
  refine ⟨fun hle => ?_, fun hgt => ?_⟩
  · have hle := dec_t hle
    rw [wrap_small (n := (h : Int) - ((t : Int) + 1)) (by omega) (by omega)]
    refine int_u64 (by omega) (by omega) ⟨by omega, ?_⟩
    rw [show (h : Int) - ((t : Int) + 1) = ((h - 1 - t : Nat) : Int) from by omega, wshr hb (by omega)]
    refine appI ho (by simp [digL']; omega) fun v' w4 c' o4 m4 hc4 => ?_
    rw [wrap_small (by omega) (by omega)]
    refine hN _ _ ⟨q3.trans (m4.below (by omega) (by simp; omega)), t + 1, c', by simp only; omega, by omega, by omega, ?_⟩ (by simp only; omega)
    rw [digL'_succ]
    exact o4
  · have hgt := dec_f hgt
    have : t = h := by omega
    subst this
    intro _
    rw [digL'_eq, ← hh] at ho
    have hci := cirC_is h2 h13 b
    have hok := cirC_ok h2 h13 b
    have hl := digL_len (n / 2) b
    refine c_spec_l03Circular (n := (n : Int)) (l := digL (n / 2) b) (by omega) (by omega) ⟨by omega, by omega⟩ (own_slI ho (by omega)) (by omega) (fun x hx => by have := digL_in (n / 2) b x hx; omega) hok fun w4 q4 => ?_
    have hs4 := q4.size
    exact c_ret hok ((hv.keep q3).keep q4) (by omega) fun w5 q5 => hK w5 ((q1.trans ((q3.trans (q4.mono hs3)).mono hs1)).trans q5)

end Go.Proofs.Ytkadckhealbdaaa

/- The reading of spec_l03Count, and its contract. No condition. -/
namespace Go.Proofs.Ytkadckhealbdaaa
open Go Go.RowKit Eng Mem
set_option linter.unusedVariables false
set_option maxRecDepth 100000
def B_spec_l03Count_3 (n0 : Int) (sizes1 : Value) (count6 : Int) (first7 : Int) (number8 : Int) (N : (Int × Value) → (Int × Int × Int) → World → Prop) (D0 : (Int × Int × Unit) → World → Prop) (w : World) : Prop :=
  ((2 : Int) ≠ 0 ∧ (QAll Try.prog (convert 2 102 (.int .i64 (IntKind.i64.wrap (Int.tdiv n0 (2 : Int))))) (.int .u64) fun (x12_1 : Int) => (0 ≤ x12_1 ∧ (((decide (number8 < (IntKind.i64.wrap ((1 : Int) * 2 ^ min (Int.toNat x12_1) 64)))) = true → (Fc Try.prog 81 #[(.int .i64 n0), (.int .i64 number8)] w (.one .any) fun (x19_3 : Value) w_2 => (Fc Try.prog 101 #[x19_3, sizes1] w_2 (.one .bool) fun (x21_5 : Bool) w_4 => (((!x21_5) = true → N (n0, (sizes1 : Value)) (count6, first7, (IntKind.i64.wrap (number8 + (1 : Int)))) w_4) ∧ ((!x21_5) = false → (((decide (first7 < (0 : Int))) = true → N (n0, (sizes1 : Value)) ((IntKind.i64.wrap (count6 + (1 : Int))), number8, (IntKind.i64.wrap (number8 + (1 : Int)))) w_4) ∧ ((decide (first7 < (0 : Int))) = false → N (n0, (sizes1 : Value)) ((IntKind.i64.wrap (count6 + (1 : Int))), first7, (IntKind.i64.wrap (number8 + (1 : Int)))) w_4))))))) ∧ ((decide (number8 < (IntKind.i64.wrap ((1 : Int) * 2 ^ min (Int.toNat x12_1) 64)))) = false → D0 (count6, first7, ()) w)))))

abbrev L_spec_l03Count_3_e0 : List Slot := [.junk, .junk, .junk, .junk, .junk, .junk, .k (.int .i64), .k (.int .i64), .junk, .junk, .junk, .junk, .junk, .junk, .junk, .junk, .junk, .junk, .junk, .junk, .junk, .junk, .junk, .junk, .junk, .junk, .junk, .junk, .junk, .junk]

abbrev L_spec_l03Count_3_sp : List Slot := [.k (.int .i64), .k .any, .junk, .junk, .junk, .junk, .k (.int .i64), .k (.int .i64), .k (.int .i64), .junk, .junk, .junk, .junk, .junk, .junk, .junk, .junk, .junk, .junk, .junk, .junk, .junk, .junk, .junk, .junk, .junk, .junk, .junk, .junk, .junk]
abbrev L_spec_l03Count_3_ex : List (Nat × List Slot) := [(0, L_spec_l03Count_3_e0)]
abbrev L_spec_l03Count_3_rt : List Slot := [.junk, .junk, .junk, .junk, .junk, .junk, .junk, .junk, .junk, .junk, .junk, .junk, .junk, .junk, .junk, .junk, .junk, .junk, .junk, .junk, .junk, .junk, .junk, .junk, .junk, .junk, .junk, .junk, .junk, .junk]

def L_spec_l03Count_3_b (Φ : Post) (u : (Int × Value)) (N : (Int × Value) → (Int × Int × Int) → World → Prop) (s : (Int × Int × Int)) (w : World) : Prop :=
  B_spec_l03Count_3 u.1 u.2 s.1 s.2.1 s.2.2 N (fun v w => ∀ j : Nat → Value, Φ (.exit 0) (mkT j 0 L_spec_l03Count_3_e0 v) w) w

theorem L_spec_l03Count_3_eq (j : Nat → Value) (u : (Int × Value)) (s : (Int × Int × Int)) (N : (Int × Value) → (Int × Int × Int) → World → Prop) (D0 : (Int × Int × Unit) → World → Prop) (R : (Unit) → World → Prop) (w : World) :
    W Try.prog ty (fun _ _ _ _ => False) (loopAt Try.f70 3) (loopPost L_spec_l03Count_3_sp [(0, (⟨L_spec_l03Count_3_e0, D0⟩ : Door))] ⟨L_spec_l03Count_3_rt, R⟩ (fun v w => N ((fun v => (v.1, v.2.1)) v) ((fun v => (v.2.2.1, v.2.2.2.1, v.2.2.2.2.1)) v) w)) (mkT j 0 L_spec_l03Count_3_sp ((fun u s => (u.1, u.2, s.1, s.2.1, s.2.2, ())) u s)) w =
    B_spec_l03Count_3 u.1 u.2 s.1 s.2.1 s.2.2 N D0 w := by
  kernel_rfl

def O_spec_l03Count_1 : Code → Post → List SV → World → Prop :=
  orc 3 (loopAt Try.f70 3) L_spec_l03Count_3_sp (fun Φ fr w => LOOP (U := (Int × Value)) (S := (Int × Int × Int)) ((fun v => (v.1, v.2.1)) (extT L_spec_l03Count_3_sp fr)) (L_spec_l03Count_3_b Φ ((fun v => (v.1, v.2.1)) (extT L_spec_l03Count_3_sp fr))) ((fun v => (v.2.2.1, v.2.2.2.1, v.2.2.2.2.1)) (extT L_spec_l03Count_3_sp fr)) w) (fun _ _ _ _ => False)

theorem O_spec_l03Count_1_ok : Sound Try.prog O_spec_l03Count_1 :=
  orc_ok (sound_none _) fun Φ fr w hs h => loop_ok (ty := ty) follows (sound_none _) L_spec_l03Count_3_sp (fun v => (v.1, v.2.1)) (fun v => (v.2.2.1, v.2.2.2.1, v.2.2.2.2.1)) (fun u s => (u.1, u.2, s.1, s.2.1, s.2.2, ())) (fun _ => rfl) L_spec_l03Count_3_ex L_spec_l03Count_3_rt (body := L_spec_l03Count_3_b Φ) (fun j u s w N hb => by
    have e := L_spec_l03Count_3_eq j u s N (doorOf Φ (.exit 0) L_spec_l03Count_3_e0).D (doorOf Φ .ret L_spec_l03Count_3_rt).D w
    exact Eq.mpr e hb) hs h

def V_spec_l03Count (n0 : Int) (sizes1 : Value) (w : World) (K : (Int × Int) → World → Prop) : Prop :=
  (At (loopAt Try.f70 3) (loopAt Try.f70 3) (LOOP (U := (Int × Value)) (S := (Int × Int × Int)) (n0, (sizes1 : Value)) (fun N_9 s_10 w_11 => B_spec_l03Count_3 n0 (sizes1 : Value) s_10.1 s_10.2.1 s_10.2.2 N_9 (fun (v_6 : (Int × Int × Unit)) w_7 => ∀ _j_8 : Nat → Value, K (v_6.1, v_6.2.1) w_7) w_11) ((0 : Int), (-1 : Int), (0 : Int)) w))

theorem eq_spec_l03Count (n0 : Int) (sizes1 : Value) (w : World) (K : (Int × Int) → World → Prop) :
    W Try.prog ty O_spec_l03Count_1 (bodyOf Try.f70) (fnPost Try.prog Try.f70.results.toList (.two (.int .i64) (.int .i64)) K) (frame0 [(.int .i64 n0), sizes1] 30) w = V_spec_l03Count n0 sizes1 w K := by
  kernel_rfl

theorem body_spec_l03Count : Try.f70.body = some (bodyOf Try.f70) := by kernel_rfl
theorem name_spec_l03Count : (Try.f70.name == "runtime.NumGoroutine") = false := by kernel_rfl

theorem walk_spec_l03Count (n0 : Int) (sizes1 : Value) {w : World} {K : (Int × Int) → World → Prop} (h : V_spec_l03Count n0 sizes1 w K) : Fc Try.prog 70 #[(.int .i64 n0), sizes1] w (.two (.int .i64) (.int .i64)) K :=
  fn_ok follows O_spec_l03Count_1_ok Try.func70 name_spec_l03Count body_spec_l03Count Try.ntmps70 [(.int .i64 n0), sizes1] (Eq.mpr (eq_spec_l03Count n0 sizes1 w K) h)

-- uses S9CirM
def fstN : List Nat → Int
  | [] => -1
  | b :: _ => b
theorem c_spec_l03Count {n : Nat} {a : Value} {l : List Int} {w : World} {K : Int × Int → World → Prop} (h2 : 2 ≤ n) (h13 : n ≤ 13) (ha : SlI w a l) (hl : TwoIs l)
    (hK : ∀ w', Below w.heap.size w w' → K ((cirA n l).length, fstN (cirA n l)) w') : Fc Try.prog F_spec_l03Count #[.int .i64 (n : Int), a] w (.two (.int .i64) (.int .i64)) K := by
  have hhn : IntKind.i64.wrap (Int.tdiv (n : Int) 2) = ((n / 2 : Nat) : Int) := by
    rw [Int.tdiv_eq_ediv_of_nonneg (by omega), wrap_small (by omega) (by omega)]; omega
  have hpow : 2 ^ (n / 2) ≤ 2 ^ 6 := Nat.pow_le_pow_right (by omega) (by omega)
  refine walk_spec_l03Count _ _ ?_
  refine lp (fun s w' => Below w.heap.size w w' ∧ ∃ m : Nat, s.2.2 = m ∧ m ≤ 2 ^ (n / 2) ∧ s.1 = (cirL n l m).length ∧ s.2.1 = fstN (cirL n l m)) (fun s _ => (100 - s.2.2).toNat) ⟨Below.refl _ _, 0, rfl, Nat.zero_le _, by simp [cirL], by simp [cirL, fstN]⟩ ?_
  rintro ⟨cnt, fst, t⟩ w2 N ⟨q2, m, hm, hm2, hc, hf⟩ hN
  simp only at hm hc hf
  subst hm; subst hc; subst hf
  unfold B_spec_l03Count_3
  dsimp only
  have hcl := cirL_len n l m
  rw [hhn]
  refine ⟨by decide, int_u64 (by omega) (by omega) ⟨by omega, ?_⟩⟩
  rw [wshl' (by omega) (by omega), Int.toNat_natCast]
  refine ⟨fun hlt => ?_, fun hge => ?_⟩
  · have hlt := dec_t hlt
    have hlt : m < 2 ^ (n / 2) := by exact_mod_cast hlt
    refine c_spec_l03Number h2 h13 (by omega) fun w3 q3 => ?_
    have q23 := q2.trans (q3.mono q2.size)
    refine c_spec_l03Avoids h2 h13 (ha.keep q23) hl fun w4 q4 => ?_
    have q24 := q23.trans (q4.mono q23.size)
    refine ⟨fun hno => ?_, fun hyes => ?_⟩
    · have hno := not_t hno
      rw [wrap_small (by omega) (by omega)]
      exact hN _ _ ⟨q24, m + 1, by simp only; omega, by omega, by simp only [cirL_no hno], by simp only [cirL_no hno]⟩ (by simp only; omega)
    · have hyes := not_f hyes
      rw [wrap_small (n := ((cirL n l m).length : Int) + 1) (by omega) (by omega), wrap_small (n := (m : Int) + 1) (by omega) (by omega)]
      have hcy := cirL_yes hyes
      refine ⟨fun hn => ?_, fun hp => ?_⟩
      · have hn := dec_t hn
        have hnil : cirL n l m = [] := by
          cases h : cirL n l m with
          | nil => rfl
          | cons b t => rw [h] at hn; simp only [fstN] at hn; omega
        refine hN _ _ ⟨q24, m + 1, by simp only; omega, by omega, by simp only [hcy, List.length_append, List.length_singleton]; omega, ?_⟩ (by simp only; omega)
        simp only [hcy, hnil, List.nil_append, fstN]
      · have hp := dec_f hp
        refine hN _ _ ⟨q24, m + 1, by simp only; omega, by omega, by simp only [hcy, List.length_append, List.length_singleton]; omega, ?_⟩ (by simp only; omega)
        cases h : cirL n l m with
        | nil => rw [h] at hp; simp [fstN] at hp
        | cons b t => simp only [hcy, h, List.cons_append, fstN]
  · have hge := dec_f hge
    have hge : ¬ m < 2 ^ (n / 2) := fun h => hge (by exact_mod_cast h)
    have : m = 2 ^ (n / 2) := by omega
    subst this
    intro _
    exact hK w2 q2

end Go.Proofs.Ytkadckhealbdaaa

/- The reading of spec_GreatestCircular, and its contract. No condition. -/
namespace Go.Proofs.Ytkadckhealbdaaa
open Go Go.RowKit Eng Mem
set_option linter.unusedVariables false
set_option maxRecDepth 100000
def B_spec_GreatestCircular_5 (sizes0 : Value) (n5 : Int) (N : Value → Int → World → Prop) (D0 : (Unit) → World → Prop) (R : (Int × Int × Unit) → World → Prop) (w : World) : Prop :=
  (((decide (n5 ≥ (2 : Int))) = true → (Fc Try.prog 70 #[(.int .i64 n5), sizes0] w (.two (.int .i64) (.int .i64)) fun (x20_4 : Int × Int) w_3 => (((decide (x20_4.2 ≥ (0 : Int))) = true → R (n5, (0 : Int), ()) w_3) ∧ ((decide (x20_4.2 ≥ (0 : Int))) = false → N (sizes0 : Value) (IntKind.i64.wrap (n5 - (1 : Int))) w_3)))) ∧ ((decide (n5 ≥ (2 : Int))) = false → D0 () w))

abbrev L_spec_GreatestCircular_5_e0 : List Slot := [.junk, .junk, .junk, .junk, .junk, .junk, .junk, .junk, .junk, .junk, .junk, .junk, .junk, .junk, .junk, .junk, .junk, .junk, .junk, .junk, .junk, .junk, .junk, .junk, .junk, .junk]

abbrev L_spec_GreatestCircular_5_sp : List Slot := [.k .any, .junk, .junk, .junk, .junk, .k (.int .i64), .junk, .junk, .junk, .junk, .junk, .junk, .junk, .junk, .junk, .junk, .junk, .junk, .junk, .junk, .junk, .junk, .junk, .junk, .junk, .junk]
abbrev L_spec_GreatestCircular_5_ex : List (Nat × List Slot) := [(0, L_spec_GreatestCircular_5_e0)]
abbrev L_spec_GreatestCircular_5_rt : List Slot := [.junk, .junk, .k (.int .i64), .k (.int .i64), .junk, .junk, .junk, .junk, .junk, .junk, .junk, .junk, .junk, .junk, .junk, .junk, .junk, .junk, .junk, .junk, .junk, .junk, .junk, .junk, .junk, .junk]

def L_spec_GreatestCircular_5_b (Φ : Post) (u : Value) (N : Value → Int → World → Prop) (s : Int) (w : World) : Prop :=
  B_spec_GreatestCircular_5 u s N (fun v w => ∀ j : Nat → Value, Φ (.exit 0) (mkT j 0 L_spec_GreatestCircular_5_e0 v) w) (fun v w => ∀ j : Nat → Value, Φ .ret (mkT j 0 L_spec_GreatestCircular_5_rt v) w) w

theorem L_spec_GreatestCircular_5_eq (j : Nat → Value) (u : Value) (s : Int) (N : Value → Int → World → Prop) (D0 : (Unit) → World → Prop) (R : (Int × Int × Unit) → World → Prop) (w : World) :
    W Try.prog ty (fun _ _ _ _ => False) (loopAt Try.f30 5) (loopPost L_spec_GreatestCircular_5_sp [(0, (⟨L_spec_GreatestCircular_5_e0, D0⟩ : Door))] ⟨L_spec_GreatestCircular_5_rt, R⟩ (fun v w => N ((fun v => v.1) v) ((fun v => v.2.1) v) w)) (mkT j 0 L_spec_GreatestCircular_5_sp ((fun u s => (u, s, ())) u s)) w =
    B_spec_GreatestCircular_5 u s N D0 R w := by
  kernel_rfl

def O_spec_GreatestCircular_1 : Code → Post → List SV → World → Prop :=
  orc 5 (loopAt Try.f30 5) L_spec_GreatestCircular_5_sp (fun Φ fr w => LOOP (U := Value) (S := Int) ((fun v => v.1) (extT L_spec_GreatestCircular_5_sp fr)) (L_spec_GreatestCircular_5_b Φ ((fun v => v.1) (extT L_spec_GreatestCircular_5_sp fr))) ((fun v => v.2.1) (extT L_spec_GreatestCircular_5_sp fr)) w) (fun _ _ _ _ => False)

theorem O_spec_GreatestCircular_1_ok : Sound Try.prog O_spec_GreatestCircular_1 :=
  orc_ok (sound_none _) fun Φ fr w hs h => loop_ok (ty := ty) follows (sound_none _) L_spec_GreatestCircular_5_sp (fun v => v.1) (fun v => v.2.1) (fun u s => (u, s, ())) (fun _ => rfl) L_spec_GreatestCircular_5_ex L_spec_GreatestCircular_5_rt (body := L_spec_GreatestCircular_5_b Φ) (fun j u s w N hb => by
    have e := L_spec_GreatestCircular_5_eq j u s N (doorOf Φ (.exit 0) L_spec_GreatestCircular_5_e0).D (doorOf Φ .ret L_spec_GreatestCircular_5_rt).D w
    exact Eq.mpr e hb) hs h

def V_spec_GreatestCircular (sizes0 : Value) (w : World) (K : (Int × Int) → World → Prop) : Prop :=
  (Fc Try.prog 69 #[(.int .i64 (2 : Int)), sizes0] w (.one (.int .i64)) fun (x9_2 : Int) w_1 => (((x9_2 != (0 : Int)) = true → K ((0 : Int), x9_2) w_1) ∧ ((x9_2 != (0 : Int)) = false → (At (loopAt Try.f30 5) (loopAt Try.f30 5) (LOOP (U := Value) (S := Int) (sizes0 : Value) (fun N_11 s_12 w_13 => B_spec_GreatestCircular_5 (sizes0 : Value) s_12 N_11 (fun (v_5 : (Unit)) w_6 => ∀ _j_7 : Nat → Value, K ((0 : Int), (4 : Int)) w_6) (fun (v_8 : (Int × Int × Unit)) w_9 => ∀ _j_10 : Nat → Value, K (v_8.1, v_8.2.1) w_9) w_13) (13 : Int) w_1)))))

theorem eq_spec_GreatestCircular (sizes0 : Value) (w : World) (K : (Int × Int) → World → Prop) :
    W Try.prog ty O_spec_GreatestCircular_1 (bodyOf Try.f30) (fnPost Try.prog Try.f30.results.toList (.two (.int .i64) (.int .i64)) K) (frame0 [sizes0] 26) w = V_spec_GreatestCircular sizes0 w K := by
  kernel_rfl

theorem body_spec_GreatestCircular : Try.f30.body = some (bodyOf Try.f30) := by kernel_rfl
theorem name_spec_GreatestCircular : (Try.f30.name == "runtime.NumGoroutine") = false := by kernel_rfl

theorem walk_spec_GreatestCircular (sizes0 : Value) {w : World} {K : (Int × Int) → World → Prop} (h : V_spec_GreatestCircular sizes0 w K) : Fc Try.prog 30 #[sizes0] w (.two (.int .i64) (.int .i64)) K :=
  fn_ok follows O_spec_GreatestCircular_1_ok Try.func30 name_spec_GreatestCircular body_spec_GreatestCircular Try.ntmps30 [sizes0] (Eq.mpr (eq_spec_GreatestCircular sizes0 w K) h)

-- uses S9CirM
theorem c_spec_GreatestCircular {a : Value} {l : List Int} {w : World} {K : Int × Int → World → Prop} (ha : ArgI w a l)
    (hK : ∀ w', Below w.heap.size w w' → K ((greatC l).1, (greatC l).2) w') : Fc Try.prog F_spec_GreatestCircular #[a] w (.two (.int .i64) (.int .i64)) K := by
  unfold greatC at hK
  refine walk_spec_GreatestCircular _ (c_spec_l03Code ha.sl ?_)
  by_cases h : TwoIs l
  · rw [if_pos (show CirIs 2 l from ⟨by omega, h⟩)]
    rw [if_pos h] at hK
    refine ⟨fun hh => absurd rfl (ne_t hh), fun _ => ?_⟩
    refine lp (fun s w' => Below w.heap.size w w' ∧ ∃ m : Nat, s = m ∧ m ≤ 13 ∧ greatR l m = greatR l 13) (fun s _ => s.toNat) ⟨Below.refl _ _, 13, rfl, by omega, rfl⟩ ?_
    rintro t w2 N ⟨q2, m, hm, hm2, hR⟩ hN
    subst hm
    unfold B_spec_GreatestCircular_5
    refine ⟨fun hge => ?_, fun hlt => ?_⟩
    · have hge := dec_t hge
      match m, hge, hm2, hR, hN with
      | m + 1, hge, hm2, hR, hN =>
      refine c_spec_l03Count (by omega) (by omega) (ha.sl.keep q2) h fun w3 q3 => ?_
      have q23 := q2.trans (q3.mono q2.size)
      rw [greatR, if_neg (by omega)] at hR
      cases hA : cirA (m + 1) l with
      | nil =>
        rw [hA, if_pos rfl] at hR
        refine ⟨fun hh => absurd (dec_t hh) (by simp [fstN]), fun _ => ?_⟩
        rw [wrap_small (by omega) (by omega)]
        exact hN _ _ ⟨q23, m, by omega, by omega, hR⟩ (by omega)
      | cons b t =>
        rw [hA, if_neg (by simp)] at hR
        refine ⟨fun _ _ => ?_, fun hh => absurd (by simp only [fstN]; omega) (dec_f hh)⟩
        have := hK w3 q23
        rw [← hR] at this
        exact this
    · have hlt := dec_f hlt
      intro _
      have := hK w2 q2
      rw [← hR] at this
      match m, hlt with
      | 0, _ => exact this
      | 1, _ => exact this
      | m + 2, hlt => omega
  · rw [if_neg (fun hh : CirIs 2 l => h hh.2)]
    rw [if_neg h] at hK
    exact ⟨fun _ => hK w (Below.refl _ _), fun hh => absurd (ne_f hh) (by omega)⟩

end Go.Proofs.Ytkadckhealbdaaa

/- The reading of laws_FnExactGreatestCircular, and its contract. No condition. -/
namespace Go.Proofs.Ytkadckhealbdaaa
open Go Go.RowKit Eng Mem
set_option linter.unusedVariables false
set_option maxRecDepth 100000
def V_laws_FnExactGreatestCircular (aSizes0 : Value) (w : World) (K : Bool → World → Prop) : Prop :=
  (QAll Try.prog (Builtin.len_ #[31] 3 #[aSizes0]) (.int .i64) fun (x9_1 : Int) => (((decide (x9_1 > (1048576 : Int))) = true → K true w) ∧ ((decide (x9_1 > (1048576 : Int))) = false → (Fc Try.prog 24 #[aSizes0] w (.one .any) fun (x13_3 : Value) w_2 => (Fc Try.prog 30 #[x13_3] w_2 (.two (.int .i64) (.int .i64)) fun (x14_5 : Int × Int) w_4 => (Fc Try.prog 24 #[aSizes0] w_4 (.one .any) fun (x18_7 : Value) w_6 => (Fc Try.prog 31 #[x18_7] w_6 (.two (.int .i64) (.int .i64)) fun (x21_9 : Int × Int) w_8 => (((x21_9.1 != x14_5.1) = true → K false w_8) ∧ ((x21_9.1 != x14_5.1) = false → (((x21_9.2 != x14_5.2) = true → K false w_8) ∧ ((x21_9.2 != x14_5.2) = false → (Fc Try.prog 24 #[aSizes0] w_8 (.one .any) fun (x34_11 : Value) w_10 => (Fc Try.prog 20 #[x18_7, x34_11] w_10 (.one .bool) fun (x35_13 : Bool) w_12 => (((!x35_13) = true → K false w_12) ∧ ((!x35_13) = false → K true w_12)))))))))))))))

theorem eq_laws_FnExactGreatestCircular (aSizes0 : Value) (w : World) (K : Bool → World → Prop) :
    W Try.prog ty (fun _ _ _ _ => False) (bodyOf Try.f8) (fnPost Try.prog Try.f8.results.toList (.one .bool) K) (frame0 [aSizes0] 37) w = V_laws_FnExactGreatestCircular aSizes0 w K := by
  kernel_rfl

theorem body_laws_FnExactGreatestCircular : Try.f8.body = some (bodyOf Try.f8) := by kernel_rfl
theorem name_laws_FnExactGreatestCircular : (Try.f8.name == "runtime.NumGoroutine") = false := by kernel_rfl

theorem walk_laws_FnExactGreatestCircular (aSizes0 : Value) {w : World} {K : Bool → World → Prop} (h : V_laws_FnExactGreatestCircular aSizes0 w K) : Fc Try.prog 8 #[aSizes0] w (.one .bool) K :=
  fn_ok follows (sound_none _) Try.func8 name_laws_FnExactGreatestCircular body_laws_FnExactGreatestCircular Try.ntmps8 [aSizes0] (Eq.mpr (eq_laws_FnExactGreatestCircular aSizes0 w K) h)

-- uses S2Sl
-- uses S9Law
theorem c_laws_FnExactGreatestCircular {a0 : Value} {l0 : List Int} {w : World} {K : Bool → World → Prop} (h0 : SlI w a0 l0 ∧ InI l0) (hK : ∀ w', Below w.heap.size w w' → K true w') :
    Fc Try.prog F_laws_FnExactGreatestCircular #[a0] w (.one .bool) K := by
  refine walk_laws_FnExactGreatestCircular _ ?_
  have B := Below.refl w.heap.size w
  refine lenI h0.1 ?_
  refine ⟨fun _ => hK _ B, fun e1 => ?_⟩
  have e1 := dec_f e1
  replace h0 : ArgI _ _ _ := ⟨h0.1, by first | omega | (have := h0.1.len; omega), h0.2⟩
  have h00 := h0
  refine c_laws_toInt64S h0 fun v5 w2 q3 f4 => ?_
  replace h0 := h0.keep q3
  replace B := B.trans (q3.mono B.size)
  have f4_in := h0.ins
  have q3_s := q3.size
  refine c_spec_GreatestCircular ⟨f4.sl, h0.len, h0.ins⟩ fun w6 q7 => ?_
  replace h0 := h0.keep q7
  replace f4 := f4.keep q7
  replace B := B.trans (q7.mono B.size)
  have q7_s := q7.size
  refine c_laws_toInt64S h0 fun v13 w10 q11 f12 => ?_
  replace h0 := h0.keep q11
  replace f4 := f4.keep q11
  replace B := B.trans (q11.mono B.size)
  have f12_in := h0.ins
  have q11_s := q11.size
  refine c_impl_GreatestCircular ⟨f12.sl, h0.len, h0.ins⟩ fun w14 q15 => ?_
  replace h0 := h0.keep q15
  replace f4 := f4.keep q15
  replace f12 := f12.keep q15
  replace B := B.trans (q15.mono B.size)
  have q15_s := q15.size
  refine ⟨fun e18 => absurd rfl (ne_t e18), fun _ => ?_⟩
  refine ⟨fun e19 => absurd rfl (ne_t e19), fun _ => ?_⟩
  refine c_laws_toInt64S h0 fun v23 w20 q21 f22 => ?_
  replace h0 := h0.keep q21
  replace f4 := f4.keep q21
  replace f12 := f12.keep q21
  replace B := B.trans (q21.mono B.size)
  have f22_in := h0.ins
  have q21_s := q21.size
  refine c_laws_eqInt64S f12.sl f22.sl fun w24 q25 => ?_
  replace h0 := h0.keep q25
  replace f4 := f4.keep q25
  replace f12 := f12.keep q25
  replace f22 := f22.keep q25
  replace B := B.trans (q25.mono B.size)
  have q25_s := q25.size
  refine ⟨fun e27 => absurd rfl (notd_t e27), fun _ => ?_⟩
  exact hK _ B

end Go.Proofs.Ytkadckhealbdaaa
