/- The reading of slices_Equal_int64_int64, and its contract. No condition. -/
import Derived.Test.YtkadckhealbdaaaTy
import Derived.Test.YtkadckhealbdaaaS2Sl
namespace Go.Proofs.Ytkadckhealbdaaa
open Go Go.RowKit Eng Mem
set_option linter.unusedVariables false
set_option maxRecDepth 100000
def B_slices_Equal_int64_int64_4 (s10 : Value) (s21 : Value) (x12 : Int) (x13 : Int) (N : (Value × Value × Int) → Int → World → Prop) (D0 : (Unit) → World → Prop) (R : (Bool × Unit) → World → Prop) (w : World) : Prop :=
  (((decide (x13 < x12)) = true → (∀ w_4, Drew w w_4 → (QAll Try.prog (Instr.indexAt 31 s10 (.int .i64 x13)) .any fun (x18_5 : Value) => (QSub Try.prog (Instr.loadAt 2 x18_5) w_4 (.int .i64) fun (x19_6 : Int) => (QAll Try.prog (Instr.indexAt 31 s21 (.int .i64 x13)) .any fun (x22_7 : Value) => (QSub Try.prog (Instr.loadAt 2 x22_7) w_4 (.int .i64) fun (x23_8 : Int) => (((x19_6 != x23_8) = true → R (false, ()) w_4) ∧ ((x19_6 != x23_8) = false → N ((s10 : Value), (s21 : Value), x12) (IntKind.i64.wrap (x13 + (1 : Int))) w_4)))))))) ∧ ((decide (x13 < x12)) = false → D0 () w))

abbrev L_slices_Equal_int64_int64_4_e0 : List Slot := [.junk, .junk, .junk, .junk, .junk, .junk, .junk, .junk, .junk, .junk, .junk, .junk, .junk, .junk, .junk, .junk, .junk, .junk, .junk, .junk, .junk, .junk, .junk, .junk, .junk, .junk]

abbrev L_slices_Equal_int64_int64_4_sp : List Slot := [.k .any, .k .any, .junk, .junk, .junk, .junk, .junk, .junk, .junk, .junk, .junk, .junk, .k (.int .i64), .k (.int .i64), .junk, .junk, .junk, .junk, .junk, .junk, .junk, .junk, .junk, .junk, .junk, .junk]
abbrev L_slices_Equal_int64_int64_4_ex : List (Nat × List Slot) := [(0, L_slices_Equal_int64_int64_4_e0)]
abbrev L_slices_Equal_int64_int64_4_rt : List Slot := [.junk, .junk, .junk, .junk, .k .bool, .junk, .junk, .junk, .junk, .junk, .junk, .junk, .junk, .junk, .junk, .junk, .junk, .junk, .junk, .junk, .junk, .junk, .junk, .junk, .junk, .junk]

def L_slices_Equal_int64_int64_4_b (Φ : Post) (u : (Value × Value × Int)) (N : (Value × Value × Int) → Int → World → Prop) (s : Int) (w : World) : Prop :=
  B_slices_Equal_int64_int64_4 u.1 u.2.1 u.2.2 s N (fun v w => ∀ j : Nat → Value, Φ (.exit 0) (mkT j 0 L_slices_Equal_int64_int64_4_e0 v) w) (fun v w => ∀ j : Nat → Value, Φ .ret (mkT j 0 L_slices_Equal_int64_int64_4_rt v) w) w

theorem L_slices_Equal_int64_int64_4_eq (j : Nat → Value) (u : (Value × Value × Int)) (s : Int) (N : (Value × Value × Int) → Int → World → Prop) (D0 : (Unit) → World → Prop) (R : (Bool × Unit) → World → Prop) (w : World) :
    W Try.prog ty (fun _ _ _ _ => False) (loopAt Try.f133 4) (loopPost L_slices_Equal_int64_int64_4_sp [(0, (⟨L_slices_Equal_int64_int64_4_e0, D0⟩ : Door))] ⟨L_slices_Equal_int64_int64_4_rt, R⟩ (fun v w => N ((fun v => (v.1, v.2.1, v.2.2.1)) v) ((fun v => v.2.2.2.1) v) w)) (mkT j 0 L_slices_Equal_int64_int64_4_sp ((fun u s => (u.1, u.2.1, u.2.2, s, ())) u s)) w =
    B_slices_Equal_int64_int64_4 u.1 u.2.1 u.2.2 s N D0 R w := by
  kernel_rfl

def O_slices_Equal_int64_int64_1 : Code → Post → List SV → World → Prop :=
  orc 4 (loopAt Try.f133 4) L_slices_Equal_int64_int64_4_sp (fun Φ fr w => LOOP (U := (Value × Value × Int)) (S := Int) ((fun v => (v.1, v.2.1, v.2.2.1)) (extT L_slices_Equal_int64_int64_4_sp fr)) (L_slices_Equal_int64_int64_4_b Φ ((fun v => (v.1, v.2.1, v.2.2.1)) (extT L_slices_Equal_int64_int64_4_sp fr))) ((fun v => v.2.2.2.1) (extT L_slices_Equal_int64_int64_4_sp fr)) w) (fun _ _ _ _ => False)

theorem O_slices_Equal_int64_int64_1_ok : Sound Try.prog O_slices_Equal_int64_int64_1 :=
  orc_ok (sound_none _) fun Φ fr w hs h => loop_ok (ty := ty) follows (sound_none _) L_slices_Equal_int64_int64_4_sp (fun v => (v.1, v.2.1, v.2.2.1)) (fun v => v.2.2.2.1) (fun u s => (u.1, u.2.1, u.2.2, s, ())) (fun _ => rfl) L_slices_Equal_int64_int64_4_ex L_slices_Equal_int64_int64_4_rt (body := L_slices_Equal_int64_int64_4_b Φ) (fun j u s w N hb => by
    have e := L_slices_Equal_int64_int64_4_eq j u s N (doorOf Φ (.exit 0) L_slices_Equal_int64_int64_4_e0).D (doorOf Φ .ret L_slices_Equal_int64_int64_4_rt).D w
    exact Eq.mpr e hb) hs h

def V_slices_Equal_int64_int64 (s10 : Value) (s21 : Value) (w : World) (K : Bool → World → Prop) : Prop :=
  (QAll Try.prog (Builtin.len_ #[31] 3 #[s10]) (.int .i64) fun (x7_1 : Int) => (QAll Try.prog (Builtin.len_ #[31] 3 #[s21]) (.int .i64) fun (x9_2 : Int) => (((x7_1 != x9_2) = true → K false w) ∧ ((x7_1 != x9_2) = false → (QAll Try.prog (Builtin.len_ #[31] 3 #[s10]) (.int .i64) fun (x12_3 : Int) => (At (loopAt Try.f133 4) (loopAt Try.f133 4) (LOOP (U := (Value × Value × Int)) (S := Int) ((s10 : Value), (s21 : Value), x12_3) (fun N_15 s_16 w_17 => B_slices_Equal_int64_int64_4 (s10 : Value) (s21 : Value) x12_3 s_16 N_15 (fun (v_9 : (Unit)) w_10 => ∀ _j_11 : Nat → Value, K true w_10) (fun (v_12 : (Bool × Unit)) w_13 => ∀ _j_14 : Nat → Value, K v_12.1 w_13) w_17) (0 : Int) w)))))))

theorem eq_slices_Equal_int64_int64 (s10 : Value) (s21 : Value) (w : World) (K : Bool → World → Prop) :
    W Try.prog ty O_slices_Equal_int64_int64_1 (bodyOf Try.f133) (fnPost Try.prog Try.f133.results.toList (.one .bool) K) (frame0 [s10, s21] 26) w = V_slices_Equal_int64_int64 s10 s21 w K := by
  kernel_rfl

theorem body_slices_Equal_int64_int64 : Try.f133.body = some (bodyOf Try.f133) := by kernel_rfl
theorem name_slices_Equal_int64_int64 : (Try.f133.name == "runtime.NumGoroutine") = false := by kernel_rfl

theorem walk_slices_Equal_int64_int64 (s10 : Value) (s21 : Value) {w : World} {K : Bool → World → Prop} (h : V_slices_Equal_int64_int64 s10 s21 w K) : Fc Try.prog 133 #[s10, s21] w (.one .bool) K :=
  fn_ok follows O_slices_Equal_int64_int64_1_ok Try.func133 name_slices_Equal_int64_int64 body_slices_Equal_int64_int64 Try.ntmps133 [s10, s21] (Eq.mpr (eq_slices_Equal_int64_int64 s10 s21 w K) h)

-- uses S2Sl
theorem c_slices_Equal_int64_int64 {s t : Value} {l m : List Int} {w : World} {K : Bool → World → Prop} (hl : SlI w s l) (hm : SlI w t m) (hK : ∀ w', Below w.heap.size w w' → K (decide (l = m)) w') :
    Fc Try.prog F_slices_Equal_int64_int64 #[s, t] w (.one .bool) K := by
  refine walk_slices_Equal_int64_int64 _ _ (lenI hl (lenI hm ⟨fun hne => ?_, fun he => lenI hl ?_⟩))
  · have := hK w (Below.refl _ _)
    rwa [decide_eq_false (fun h : l = m => ne_t hne (by rw [h]))] at this
  have he := ne_f he
  have hll := hl.len
  refine lp (fun i w' => Below w.heap.size w w' ∧ ∃ k : Nat, i = k ∧ k ≤ l.length ∧ ∀ j, j < k → l.getD j 0 = m.getD j 0) (fun i _ => (l.length - i).toNat) ⟨Below.refl _ _, 0, rfl, by omega, fun j hj => absurd hj (by omega)⟩ ?_
  rintro t' w1 N ⟨q1, k, hk, hkl, hall⟩ hN
  subst hk
  unfold B_slices_Equal_int64_int64_4
  refine ⟨fun hlt => ?_, fun hge => ?_⟩
  · have hlt := dec_t hlt
    intro w2 hd
    have q2 := q1.trans (hd.below w.heap.size)
    refine atI (hl.keep q2) (by omega) hlt (atI (hm.keep q2) (by omega) (by omega) ⟨fun hne => ?_, fun heq => ?_⟩)
    · intro _
      have := hK w2 q2
      rwa [decide_eq_false (fun h : l = m => ne_t hne (by rw [h]))] at this
    · have heq := ne_f heq
      rw [Int.toNat_natCast] at heq
      rw [wrap_small (by omega) (by omega)]
      refine hN _ _ ⟨q2, k + 1, by omega, by omega, fun j hj => ?_⟩ (by omega)
      by_cases hjk : j < k
      · exact hall j hjk
      · have : j = k := by omega
        subst this; exact heq
  · have hge := dec_f hge
    have : k = l.length := by omega
    subst this
    intro _
    have := hK w1 q1
    have hlm : l = m := by
      apply List.ext_getElem (by omega)
      intro j h1 h2
      have := hall j h1
      simpa [List.getD, h1, h2] using this
    rwa [decide_eq_true hlm] at this

end Go.Proofs.Ytkadckhealbdaaa
