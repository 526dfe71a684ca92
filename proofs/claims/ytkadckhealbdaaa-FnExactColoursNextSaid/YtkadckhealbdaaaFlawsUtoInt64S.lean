/- The reading of laws_toInt64S, and its contract. No condition. -/
import Derived.Test.YtkadckhealbdaaaTy
import Derived.Test.YtkadckhealbdaaaS2Sl
namespace Go.Proofs.Ytkadckhealbdaaa
open Go Go.RowKit Eng Mem
set_option linter.unusedVariables false
set_option maxRecDepth 100000
def B_laws_toInt64S_3 (a0 : Value) (out3 : Value) (i4 : Int) (N : (Value × Value) → Int → World → Prop) (D0 : (Value × Unit) → World → Prop) (w : World) : Prop :=
  (QAll Try.prog (Builtin.len_ #[31] 3 #[a0]) (.int .i64) fun (x10_4 : Int) => (((decide (i4 < x10_4)) = true → (QAll Try.prog (Instr.indexAt 31 a0 (.int .i64 i4)) .any fun (x18_5 : Value) => (QSub Try.prog (Instr.loadAt 2 x18_5) w (.int .i64) fun (x19_6 : Int) => (QAll Try.prog (Instr.indexAt 31 out3 (.int .i64 i4)) .any fun (x20_7 : Value) => (PrU Try.prog (Instr.storeAt 2 x20_7 (.int .i64 x19_6)) w fun w_8 => N ((a0 : Value), (out3 : Value)) (IntKind.i64.wrap (i4 + (1 : Int))) w_8))))) ∧ ((decide (i4 < x10_4)) = false → D0 ((out3 : Value), ()) w)))

abbrev L_laws_toInt64S_3_e0 : List Slot := [.junk, .junk, .junk, .k .any, .junk, .junk, .junk, .junk, .junk, .junk, .junk, .junk, .junk, .junk, .junk, .junk, .junk, .junk, .junk, .junk, .junk, .junk]

abbrev L_laws_toInt64S_3_sp : List Slot := [.k .any, .junk, .junk, .k .any, .k (.int .i64), .junk, .junk, .junk, .junk, .junk, .junk, .junk, .junk, .junk, .junk, .junk, .junk, .junk, .junk, .junk, .junk, .junk]
abbrev L_laws_toInt64S_3_ex : List (Nat × List Slot) := [(0, L_laws_toInt64S_3_e0)]
abbrev L_laws_toInt64S_3_rt : List Slot := [.junk, .junk, .junk, .junk, .junk, .junk, .junk, .junk, .junk, .junk, .junk, .junk, .junk, .junk, .junk, .junk, .junk, .junk, .junk, .junk, .junk, .junk]

def L_laws_toInt64S_3_b (Φ : Post) (u : (Value × Value)) (N : (Value × Value) → Int → World → Prop) (s : Int) (w : World) : Prop :=
  B_laws_toInt64S_3 u.1 u.2 s N (fun v w => ∀ j : Nat → Value, Φ (.exit 0) (mkT j 0 L_laws_toInt64S_3_e0 v) w) w

theorem L_laws_toInt64S_3_eq (j : Nat → Value) (u : (Value × Value)) (s : Int) (N : (Value × Value) → Int → World → Prop) (D0 : (Value × Unit) → World → Prop) (R : (Unit) → World → Prop) (w : World) :
    W Try.prog ty (fun _ _ _ _ => False) (loopAt Try.f24 3) (loopPost L_laws_toInt64S_3_sp [(0, (⟨L_laws_toInt64S_3_e0, D0⟩ : Door))] ⟨L_laws_toInt64S_3_rt, R⟩ (fun v w => N ((fun v => (v.1, v.2.1)) v) ((fun v => v.2.2.1) v) w)) (mkT j 0 L_laws_toInt64S_3_sp ((fun u s => (u.1, u.2, s, ())) u s)) w =
    B_laws_toInt64S_3 u.1 u.2 s N D0 w := by
  kernel_rfl

def O_laws_toInt64S_1 : Code → Post → List SV → World → Prop :=
  orc 3 (loopAt Try.f24 3) L_laws_toInt64S_3_sp (fun Φ fr w => LOOP (U := (Value × Value)) (S := Int) ((fun v => (v.1, v.2.1)) (extT L_laws_toInt64S_3_sp fr)) (L_laws_toInt64S_3_b Φ ((fun v => (v.1, v.2.1)) (extT L_laws_toInt64S_3_sp fr))) ((fun v => v.2.2.1) (extT L_laws_toInt64S_3_sp fr)) w) (fun _ _ _ _ => False)

theorem O_laws_toInt64S_1_ok : Sound Try.prog O_laws_toInt64S_1 :=
  orc_ok (sound_none _) fun Φ fr w hs h => loop_ok (ty := ty) follows (sound_none _) L_laws_toInt64S_3_sp (fun v => (v.1, v.2.1)) (fun v => v.2.2.1) (fun u s => (u.1, u.2, s, ())) (fun _ => rfl) L_laws_toInt64S_3_ex L_laws_toInt64S_3_rt (body := L_laws_toInt64S_3_b Φ) (fun j u s w N hb => by
    have e := L_laws_toInt64S_3_eq j u s N (doorOf Φ (.exit 0) L_laws_toInt64S_3_e0).D (doorOf Φ .ret L_laws_toInt64S_3_rt).D w
    exact Eq.mpr e hb) hs h

def V_laws_toInt64S (a0 : Value) (w : World) (K : Value → World → Prop) : Prop :=
  (QAll Try.prog (Builtin.len_ #[31] 3 #[a0]) (.int .i64) fun (x6_1 : Int) => (Pr Try.prog (Instr.makeSlice 31 (.int .i64 x6_1) (.int .i64 x6_1)) w (.one .any) fun (x7_3 : Value) w_2 => (At (loopAt Try.f24 3) (loopAt Try.f24 3) (LOOP (U := (Value × Value)) (S := Int) ((a0 : Value), (x7_3 : Value)) (fun N_13 s_14 w_15 => B_laws_toInt64S_3 (a0 : Value) (x7_3 : Value) s_14 N_13 (fun (v_10 : (Value × Unit)) w_11 => ∀ _j_12 : Nat → Value, K (v_10.1 : Value) w_11) w_15) (0 : Int) w_2))))

theorem eq_laws_toInt64S (a0 : Value) (w : World) (K : Value → World → Prop) :
    W Try.prog ty O_laws_toInt64S_1 (bodyOf Try.f24) (fnPost Try.prog Try.f24.results.toList (.one .any) K) (frame0 [a0] 22) w = V_laws_toInt64S a0 w K := by
  kernel_rfl

theorem body_laws_toInt64S : Try.f24.body = some (bodyOf Try.f24) := by kernel_rfl
theorem name_laws_toInt64S : (Try.f24.name == "runtime.NumGoroutine") = false := by kernel_rfl

theorem walk_laws_toInt64S (a0 : Value) {w : World} {K : Value → World → Prop} (h : V_laws_toInt64S a0 w K) : Fc Try.prog 24 #[a0] w (.one .any) K :=
  fn_ok follows O_laws_toInt64S_1_ok Try.func24 name_laws_toInt64S body_laws_toInt64S Try.ntmps24 [a0] (Eq.mpr (eq_laws_toInt64S a0 w K) h)

-- uses S2Sl
theorem c_laws_toInt64S {a : Value} {l : List Int} {w : World} {K : Value → World → Prop} (ha : ArgI w a l) (hK : ∀ v w', Below w.heap.size w w' → MyI w.heap.size w'.heap.size w' v l → K v w') :
    Fc Try.prog F_laws_toInt64S #[a] w (.one .any) K := by
  have h := ha.sl; have hl := ha.len
  refine walk_laws_toInt64S _ ?_
  refine lenI h (mkI (by omega) (by omega) fun b v w1 hn ho => ?_)
  have e := hn.here
  have h1 := h.keep hn.below
  refine lp (fun i w' => 0 ≤ i ∧ i ≤ l.length ∧ Below w.heap.size w w' ∧ OwnI w' b v (l.take i.toNat ++ List.replicate (l.length - i.toNat) 0)) (fun i _ => (l.length - i).toNat)
    ⟨by omega, by omega, hn.below, by simpa using ho⟩ ?_
  rintro i w' N ⟨h0, hi, hb, hO⟩ hN
  have h' := h.keep hb
  unfold B_laws_toInt64S_3
  refine lenI h' ⟨fun hlt => ?_, fun hge => ?_⟩
  · have hlt := of_decide_eq_true hlt
    refine atI h' h0 hlt (putI hO h0 (by simp; omega) fun w2 m hs hO2 => ?_)
    rw [wrap_small (by omega) (by omega)]
    have hs0 := hb.size
    refine hN _ _ ⟨by omega, by omega, hb.trans ((m.below (B := w.heap.size) (by omega) (by simp; omega)).mono (by omega)), ?_⟩ (by omega)
    have : (l.take i.toNat ++ List.replicate (l.length - i.toNat) 0).set i.toNat (l.getD i.toNat 0) = l.take (i + 1).toNat ++ List.replicate (l.length - (i + 1).toNat) 0 := by
      have := fill_step (xs := l) (zs := List.replicate l.length 0) (i := i.toNat) (by omega) (by simp)
      rw [show l.getD i.toNat 0 = l[i.toNat]'(by omega) from by simp [List.getD, show i.toNat < l.length from by omega], show (i + 1).toNat = i.toNat + 1 from by omega]
      simpa using this
    rw [this] at hO2
    exact hO2
  · have hge := of_decide_eq_false hge
    intro _
    have : i = l.length := by omega
    subst this
    have hO : OwnI w' b v l := by simpa using hO
    exact hK _ _ hb (own_my hO (by omega) (by omega) hO.lt)

end Go.Proofs.Ytkadckhealbdaaa
