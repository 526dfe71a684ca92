/- The reading of laws_eqInt64S, and its contract. No condition. -/
import Derived.Test.YtdkodhonaoecnaaTy
import Derived.Test.YtdkodhonaoecnaaS2Sl
namespace Go.Proofs.Ytdkodhonaoecnaa
open Go Go.RowKit Eng Mem
set_option linter.unusedVariables false
set_option maxRecDepth 100000
def B_laws_eqInt64S_4 (a0 : Value) (b1 : Value) (i5 : Int) (N : (Value × Value) → Int → World → Prop) (D0 : (Unit) → World → Prop) (R : (Bool × Unit) → World → Prop) (w : World) : Prop :=
  (QAll Try.prog (Builtin.len_ #[25] 3 #[a0]) (.int .i64) fun (x13_3 : Int) => (((decide (i5 < x13_3)) = true → (∀ w_4, Drew w w_4 → (QAll Try.prog (Instr.indexAt 25 a0 (.int .i64 i5)) .any fun (x19_5 : Value) => (QSub Try.prog (Instr.loadAt 2 x19_5) w_4 (.int .i64) fun (x20_6 : Int) => (QAll Try.prog (Instr.indexAt 25 b1 (.int .i64 i5)) .any fun (x23_7 : Value) => (QSub Try.prog (Instr.loadAt 2 x23_7) w_4 (.int .i64) fun (x24_8 : Int) => (((x20_6 != x24_8) = true → R (false, ()) w_4) ∧ ((x20_6 != x24_8) = false → N ((a0 : Value), (b1 : Value)) (IntKind.i64.wrap (i5 + (1 : Int))) w_4)))))))) ∧ ((decide (i5 < x13_3)) = false → D0 () w)))

abbrev L_laws_eqInt64S_4_e0 : List Slot := [.junk, .junk, .junk, .junk, .junk, .junk, .junk, .junk, .junk, .junk, .junk, .junk, .junk, .junk, .junk, .junk, .junk, .junk, .junk, .junk, .junk, .junk, .junk, .junk, .junk, .junk]

abbrev L_laws_eqInt64S_4_sp : List Slot := [.k .any, .k .any, .junk, .junk, .junk, .k (.int .i64), .junk, .junk, .junk, .junk, .junk, .junk, .junk, .junk, .junk, .junk, .junk, .junk, .junk, .junk, .junk, .junk, .junk, .junk, .junk, .junk]
abbrev L_laws_eqInt64S_4_ex : List (Nat × List Slot) := [(0, L_laws_eqInt64S_4_e0)]
abbrev L_laws_eqInt64S_4_rt : List Slot := [.junk, .junk, .junk, .junk, .k .bool, .junk, .junk, .junk, .junk, .junk, .junk, .junk, .junk, .junk, .junk, .junk, .junk, .junk, .junk, .junk, .junk, .junk, .junk, .junk, .junk, .junk]

def L_laws_eqInt64S_4_b (Φ : Post) (u : (Value × Value)) (N : (Value × Value) → Int → World → Prop) (s : Int) (w : World) : Prop :=
  B_laws_eqInt64S_4 u.1 u.2 s N (fun v w => ∀ j : Nat → Value, Φ (.exit 0) (mkT j 0 L_laws_eqInt64S_4_e0 v) w) (fun v w => ∀ j : Nat → Value, Φ .ret (mkT j 0 L_laws_eqInt64S_4_rt v) w) w

theorem L_laws_eqInt64S_4_eq (j : Nat → Value) (u : (Value × Value)) (s : Int) (N : (Value × Value) → Int → World → Prop) (D0 : (Unit) → World → Prop) (R : (Bool × Unit) → World → Prop) (w : World) :
    W Try.prog ty (fun _ _ _ _ => False) (loopAt Try.f21 4) (loopPost L_laws_eqInt64S_4_sp [(0, (⟨L_laws_eqInt64S_4_e0, D0⟩ : Door))] ⟨L_laws_eqInt64S_4_rt, R⟩ (fun v w => N ((fun v => (v.1, v.2.1)) v) ((fun v => v.2.2.1) v) w)) (mkT j 0 L_laws_eqInt64S_4_sp ((fun u s => (u.1, u.2, s, ())) u s)) w =
    B_laws_eqInt64S_4 u.1 u.2 s N D0 R w := by
  kernel_rfl

def O_laws_eqInt64S_1 : Code → Post → List SV → World → Prop :=
  orc 4 (loopAt Try.f21 4) L_laws_eqInt64S_4_sp (fun Φ fr w => LOOP (U := (Value × Value)) (S := Int) ((fun v => (v.1, v.2.1)) (extT L_laws_eqInt64S_4_sp fr)) (L_laws_eqInt64S_4_b Φ ((fun v => (v.1, v.2.1)) (extT L_laws_eqInt64S_4_sp fr))) ((fun v => v.2.2.1) (extT L_laws_eqInt64S_4_sp fr)) w) (fun _ _ _ _ => False)

theorem O_laws_eqInt64S_1_ok : Sound Try.prog O_laws_eqInt64S_1 :=
  orc_ok (sound_none _) fun Φ fr w hs h => loop_ok (ty := ty) follows (sound_none _) L_laws_eqInt64S_4_sp (fun v => (v.1, v.2.1)) (fun v => v.2.2.1) (fun u s => (u.1, u.2, s, ())) (fun _ => rfl) L_laws_eqInt64S_4_ex L_laws_eqInt64S_4_rt (body := L_laws_eqInt64S_4_b Φ) (fun j u s w N hb => by
    have e := L_laws_eqInt64S_4_eq j u s N (doorOf Φ (.exit 0) L_laws_eqInt64S_4_e0).D (doorOf Φ .ret L_laws_eqInt64S_4_rt).D w
    exact Eq.mpr e hb) hs h

def V_laws_eqInt64S (a0 : Value) (b1 : Value) (w : World) (K : Bool → World → Prop) : Prop :=
  (QAll Try.prog (Builtin.len_ #[25] 3 #[a0]) (.int .i64) fun (x7_1 : Int) => (QAll Try.prog (Builtin.len_ #[25] 3 #[b1]) (.int .i64) fun (x9_2 : Int) => (((x7_1 != x9_2) = true → K false w) ∧ ((x7_1 != x9_2) = false → (At (loopAt Try.f21 4) (loopAt Try.f21 4) (LOOP (U := (Value × Value)) (S := Int) ((a0 : Value), (b1 : Value)) (fun N_15 s_16 w_17 => B_laws_eqInt64S_4 (a0 : Value) (b1 : Value) s_16 N_15 (fun (v_9 : (Unit)) w_10 => ∀ _j_11 : Nat → Value, K true w_10) (fun (v_12 : (Bool × Unit)) w_13 => ∀ _j_14 : Nat → Value, K v_12.1 w_13) w_17) (0 : Int) w))))))

theorem eq_laws_eqInt64S (a0 : Value) (b1 : Value) (w : World) (K : Bool → World → Prop) :
    W Try.prog ty O_laws_eqInt64S_1 (bodyOf Try.f21) (fnPost Try.prog Try.f21.results.toList (.one .bool) K) (frame0 [a0, b1] 26) w = V_laws_eqInt64S a0 b1 w K := by
  kernel_rfl

theorem body_laws_eqInt64S : Try.f21.body = some (bodyOf Try.f21) := by kernel_rfl
theorem name_laws_eqInt64S : (Try.f21.name == "runtime.NumGoroutine") = false := by kernel_rfl

theorem walk_laws_eqInt64S (a0 : Value) (b1 : Value) {w : World} {K : Bool → World → Prop} (h : V_laws_eqInt64S a0 b1 w K) : Fc Try.prog 21 #[a0, b1] w (.one .bool) K :=
  fn_ok follows O_laws_eqInt64S_1_ok Try.func21 name_laws_eqInt64S body_laws_eqInt64S Try.ntmps21 [a0, b1] (Eq.mpr (eq_laws_eqInt64S a0 b1 w K) h)

-- uses S2Sl
theorem c_laws_eqInt64S {a b : Value} {l m : List Int} {w : World} {K : Bool → World → Prop} (h : SlI w a l) (k : SlI w b m) (hK : ∀ w', Below w.heap.size w w' → K (decide (l = m)) w') :
    Fc Try.prog F_laws_eqInt64S #[a, b] w (.one .bool) K := by
  have hll := h.len; have hml := k.len
  have yes : ∀ w', Below w.heap.size w w' → l = m → K true w' := fun w' hb he => by have := hK w' hb; rwa [decide_eq_true he] at this
  have no : ∀ w', Below w.heap.size w w' → l ≠ m → K false w' := fun w' hb he => by have := hK w' hb; rwa [decide_eq_false he] at this
  refine walk_laws_eqInt64S _ _ ?_
  refine lenI h (lenI k ⟨fun hne => no w (Below.refl _ _) fun he => by simp [he] at hne, fun heq => ?_⟩)
  have heq : l.length = m.length := by have := ne_f heq; omega
  refine lp (fun i w' => 0 ≤ i ∧ i ≤ l.length ∧ Below w.heap.size w w' ∧ ∀ j : Nat, (j : Int) < i → l.getD j 0 = m.getD j 0) (fun i _ => (l.length - i).toNat)
    ⟨by omega, by omega, Below.refl _ _, fun j hj => by omega⟩ ?_
  rintro i w1 N ⟨h0, hi, hb, hall⟩ hN
  unfold B_laws_eqInt64S_4
  refine lenI (h.keep hb) ⟨fun hlt w' hd => ?_, fun hge => ?_⟩
  · have hlt := of_decide_eq_true hlt
    have hb' := hb.trans (hd.below _)
    refine atI (h.keep hb') h0 hlt (atI (k.keep hb') h0 (by omega) ⟨fun hne _ => ?_, fun he => ?_⟩)
    · exact no w' hb' fun hlm => by subst hlm; simp at hne
    · have he : l.getD i.toNat 0 = m.getD i.toNat 0 := by simpa using he
      rw [wrap_small (by omega) (by omega)]
      refine hN _ _ ⟨by omega, by omega, hb', fun j hj => ?_⟩ (by omega)
      by_cases hji : (j : Int) < i
      · exact hall j hji
      · have : j = i.toNat := by omega
        subst this; exact he
  · have hge := of_decide_eq_false hge
    refine fun _ => yes w1 hb (List.ext_getElem heq fun j h1 h2 => ?_)
    have := hall j (by omega)
    simpa [List.getD, h1, h2] using this

end Go.Proofs.Ytdkodhonaoecnaa
