/- The reading of slices_IndexFunc_int64_int64, and its contract. No condition. -/
import Derived.Test.YtkadckhealbdaaaTy
import Derived.Test.YtkadckhealbdaaaS2Sl
namespace Go.Proofs.Ytkadckhealbdaaa
open Go Go.RowKit Eng Mem
set_option linter.unusedVariables false
set_option maxRecDepth 100000
def B_slices_IndexFunc_int64_int64_2 (s0 : Value) (f1 : Value) (x7 : Int) (x8 : Int) (N : (Value × Value × Int) → Int → World → Prop) (D0 : (Unit) → World → Prop) (R : (Int × Unit) → World → Prop) (w : World) : Prop :=
  (((decide (x8 < x7)) = true → (QAll Try.prog (Instr.indexAt 31 s0 (.int .i64 x8)) .any fun (x14_2 : Value) => (QSub Try.prog (Instr.loadAt 2 x14_2) w (.int .i64) fun (x15_3 : Int) => (callV Try.prog f1 #[(.int .i64 x15_3)] w (.one .bool) fun (x16_5 : Bool) w_4 => ((x16_5 = true → R (x8, ()) w_4) ∧ (x16_5 = false → N ((s0 : Value), (f1 : Value), x7) (IntKind.i64.wrap (x8 + (1 : Int))) w_4)))))) ∧ ((decide (x8 < x7)) = false → D0 () w))

abbrev L_slices_IndexFunc_int64_int64_2_e0 : List Slot := [.junk, .junk, .junk, .junk, .junk, .junk, .junk, .junk, .junk, .junk, .junk, .junk, .junk, .junk, .junk, .junk, .junk, .junk, .junk]

abbrev L_slices_IndexFunc_int64_int64_2_sp : List Slot := [.k .any, .k .any, .junk, .junk, .junk, .junk, .junk, .k (.int .i64), .k (.int .i64), .junk, .junk, .junk, .junk, .junk, .junk, .junk, .junk, .junk, .junk]
abbrev L_slices_IndexFunc_int64_int64_2_ex : List (Nat × List Slot) := [(0, L_slices_IndexFunc_int64_int64_2_e0)]
abbrev L_slices_IndexFunc_int64_int64_2_rt : List Slot := [.junk, .junk, .junk, .junk, .k (.int .i64), .junk, .junk, .junk, .junk, .junk, .junk, .junk, .junk, .junk, .junk, .junk, .junk, .junk, .junk]

def L_slices_IndexFunc_int64_int64_2_b (Φ : Post) (u : (Value × Value × Int)) (N : (Value × Value × Int) → Int → World → Prop) (s : Int) (w : World) : Prop :=
  B_slices_IndexFunc_int64_int64_2 u.1 u.2.1 u.2.2 s N (fun v w => ∀ j : Nat → Value, Φ (.exit 0) (mkT j 0 L_slices_IndexFunc_int64_int64_2_e0 v) w) (fun v w => ∀ j : Nat → Value, Φ .ret (mkT j 0 L_slices_IndexFunc_int64_int64_2_rt v) w) w

theorem L_slices_IndexFunc_int64_int64_2_eq (j : Nat → Value) (u : (Value × Value × Int)) (s : Int) (N : (Value × Value × Int) → Int → World → Prop) (D0 : (Unit) → World → Prop) (R : (Int × Unit) → World → Prop) (w : World) :
    W Try.prog ty (fun _ _ _ _ => False) (loopAt Try.f137 2) (loopPost L_slices_IndexFunc_int64_int64_2_sp [(0, (⟨L_slices_IndexFunc_int64_int64_2_e0, D0⟩ : Door))] ⟨L_slices_IndexFunc_int64_int64_2_rt, R⟩ (fun v w => N ((fun v => (v.1, v.2.1, v.2.2.1)) v) ((fun v => v.2.2.2.1) v) w)) (mkT j 0 L_slices_IndexFunc_int64_int64_2_sp ((fun u s => (u.1, u.2.1, u.2.2, s, ())) u s)) w =
    B_slices_IndexFunc_int64_int64_2 u.1 u.2.1 u.2.2 s N D0 R w := by
  kernel_rfl

def O_slices_IndexFunc_int64_int64_1 : Code → Post → List SV → World → Prop :=
  orc 2 (loopAt Try.f137 2) L_slices_IndexFunc_int64_int64_2_sp (fun Φ fr w => LOOP (U := (Value × Value × Int)) (S := Int) ((fun v => (v.1, v.2.1, v.2.2.1)) (extT L_slices_IndexFunc_int64_int64_2_sp fr)) (L_slices_IndexFunc_int64_int64_2_b Φ ((fun v => (v.1, v.2.1, v.2.2.1)) (extT L_slices_IndexFunc_int64_int64_2_sp fr))) ((fun v => v.2.2.2.1) (extT L_slices_IndexFunc_int64_int64_2_sp fr)) w) (fun _ _ _ _ => False)

theorem O_slices_IndexFunc_int64_int64_1_ok : Sound Try.prog O_slices_IndexFunc_int64_int64_1 :=
  orc_ok (sound_none _) fun Φ fr w hs h => loop_ok (ty := ty) follows (sound_none _) L_slices_IndexFunc_int64_int64_2_sp (fun v => (v.1, v.2.1, v.2.2.1)) (fun v => v.2.2.2.1) (fun u s => (u.1, u.2.1, u.2.2, s, ())) (fun _ => rfl) L_slices_IndexFunc_int64_int64_2_ex L_slices_IndexFunc_int64_int64_2_rt (body := L_slices_IndexFunc_int64_int64_2_b Φ) (fun j u s w N hb => by
    have e := L_slices_IndexFunc_int64_int64_2_eq j u s N (doorOf Φ (.exit 0) L_slices_IndexFunc_int64_int64_2_e0).D (doorOf Φ .ret L_slices_IndexFunc_int64_int64_2_rt).D w
    exact Eq.mpr e hb) hs h

def V_slices_IndexFunc_int64_int64 (s0 : Value) (f1 : Value) (w : World) (K : Int → World → Prop) : Prop :=
  (QAll Try.prog (Builtin.len_ #[31] 3 #[s0]) (.int .i64) fun (x7_1 : Int) => (At (loopAt Try.f137 2) (loopAt Try.f137 2) (LOOP (U := (Value × Value × Int)) (S := Int) ((s0 : Value), (f1 : Value), x7_1) (fun N_12 s_13 w_14 => B_slices_IndexFunc_int64_int64_2 (s0 : Value) (f1 : Value) x7_1 s_13 N_12 (fun (v_6 : (Unit)) w_7 => ∀ _j_8 : Nat → Value, K (-1 : Int) w_7) (fun (v_9 : (Int × Unit)) w_10 => ∀ _j_11 : Nat → Value, K v_9.1 w_10) w_14) (0 : Int) w)))

theorem eq_slices_IndexFunc_int64_int64 (s0 : Value) (f1 : Value) (w : World) (K : Int → World → Prop) :
    W Try.prog ty O_slices_IndexFunc_int64_int64_1 (bodyOf Try.f137) (fnPost Try.prog Try.f137.results.toList (.one (.int .i64)) K) (frame0 [s0, f1] 19) w = V_slices_IndexFunc_int64_int64 s0 f1 w K := by
  kernel_rfl

theorem body_slices_IndexFunc_int64_int64 : Try.f137.body = some (bodyOf Try.f137) := by kernel_rfl
theorem name_slices_IndexFunc_int64_int64 : (Try.f137.name == "runtime.NumGoroutine") = false := by kernel_rfl

theorem walk_slices_IndexFunc_int64_int64 (s0 : Value) (f1 : Value) {w : World} {K : Int → World → Prop} (h : V_slices_IndexFunc_int64_int64 s0 f1 w K) : Fc Try.prog 137 #[s0, f1] w (.one (.int .i64)) K :=
  fn_ok follows O_slices_IndexFunc_int64_int64_1_ok Try.func137 name_slices_IndexFunc_int64_int64 body_slices_IndexFunc_int64_int64 Try.ntmps137 [s0, f1] (Eq.mpr (eq_slices_IndexFunc_int64_int64 s0 f1 w K) h)

-- uses S2Sl
theorem c_slices_IndexFunc_int64_int64 {s f : Value} {l : List Int} (g : Int → Bool) {w : World} {K : Int → World → Prop} (h : SlI w s l)
    (hf : ∀ x ∈ l, ∀ (w' : World) (K' : Bool → World → Prop), Below w.heap.size w w' → (∀ w'', Below w'.heap.size w' w'' → K' (g x) w'') → callV Try.prog f #[.int .i64 x] w' (.one .bool) K')
    (hK : ∀ w' (r : Int), Below w.heap.size w w' → (r = -1 ∧ l.any g = false ∨ ∃ i : Nat, r = i ∧ i < l.length ∧ g (l.getD i 0) = true ∧ ∀ j, j < i → g (l.getD j 0) = false) → K r w') :
    Fc Try.prog F_slices_IndexFunc_int64_int64 #[s, f] w (.one (.int .i64)) K := by
  have hlen := h.len
  refine walk_slices_IndexFunc_int64_int64 _ _ (lenI h ?_)
  refine lp (fun i w' => 0 ≤ i ∧ i ≤ l.length ∧ Below w.heap.size w w' ∧ ∀ j : Nat, (j : Int) < i → g (l.getD j 0) = false) (fun i _ => (l.length - i).toNat)
    ⟨by omega, by omega, Below.refl _ _, fun j hj => by omega⟩ ?_
  rintro i w1 N ⟨h0, hi, hb, hall⟩ hN
  unfold B_slices_IndexFunc_int64_int64_2
  refine ⟨fun hlt => ?_, fun hge => ?_⟩
  · have hlt := dec_t hlt
    refine atI (h.keep hb) h0 hlt ?_
    have hm : l.getD i.toNat 0 ∈ l := by
      simp only [List.getD, show i.toNat < l.length from by omega, List.getElem?_eq_getElem, Option.getD_some]
      exact List.getElem_mem _
    refine hf _ hm w1 _ hb fun w2 hb2 => ?_
    have hbb := hb.trans (hb2.mono hb.size)
    refine ⟨fun ht _ => hK w2 _ hbb (.inr ⟨i.toNat, by omega, by omega, ht, fun j hj => hall j (by omega)⟩), fun hn => ?_⟩
    rw [wrap_small (by omega) (by omega)]
    refine hN _ _ ⟨by omega, by omega, hbb, fun j hj => ?_⟩ (by omega)
    by_cases hji : (j : Int) < i
    · exact hall j hji
    · have : j = i.toNat := by omega
      subst this; exact hn
  · have hge := dec_f hge
    refine fun _ => hK w1 _ hb (.inl ⟨rfl, ?_⟩)
    rw [List.any_eq_false]
    intro x hx
    obtain ⟨j, hj, rfl⟩ := List.getElem_of_mem hx
    have := hall j (by omega)
    simpa [List.getD, hj] using this

end Go.Proofs.Ytkadckhealbdaaa
