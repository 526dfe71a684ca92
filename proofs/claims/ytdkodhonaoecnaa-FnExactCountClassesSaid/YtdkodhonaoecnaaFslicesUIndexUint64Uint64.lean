/- The reading of slices_Index_int64_int64, and its contract. No condition. -/
import Derived.Test.YtdkodhonaoecnaaTy
import Derived.Test.YtdkodhonaoecnaaS2Sl
namespace Go.Proofs.Ytdkodhonaoecnaa
open Go Go.RowKit Eng Mem
set_option linter.unusedVariables false
set_option maxRecDepth 100000
def B_slices_Index_int64_int64_2 (s0 : Value) (v1 : Int) (x7 : Int) (x8 : Int) (N : (Value × Int × Int) → Int → World → Prop) (D0 : (Unit) → World → Prop) (R : (Int × Unit) → World → Prop) (w : World) : Prop :=
  (((decide (x8 < x7)) = true → (QAll Try.prog (Instr.indexAt 25 s0 (.int .i64 x8)) .any fun (x14_2 : Value) => (QSub Try.prog (Instr.loadAt 2 x14_2) w (.int .i64) fun (x15_3 : Int) => (((v1 == x15_3) = true → R (x8, ()) w) ∧ ((v1 == x15_3) = false → N ((s0 : Value), v1, x7) (IntKind.i64.wrap (x8 + (1 : Int))) w))))) ∧ ((decide (x8 < x7)) = false → D0 () w))

abbrev L_slices_Index_int64_int64_2_e0 : List Slot := [.junk, .junk, .junk, .junk, .junk, .junk, .junk, .junk, .junk, .junk, .junk, .junk, .junk, .junk, .junk, .junk, .junk, .junk, .junk]

abbrev L_slices_Index_int64_int64_2_sp : List Slot := [.k .any, .k (.int .i64), .junk, .junk, .junk, .junk, .junk, .k (.int .i64), .k (.int .i64), .junk, .junk, .junk, .junk, .junk, .junk, .junk, .junk, .junk, .junk]
abbrev L_slices_Index_int64_int64_2_ex : List (Nat × List Slot) := [(0, L_slices_Index_int64_int64_2_e0)]
abbrev L_slices_Index_int64_int64_2_rt : List Slot := [.junk, .junk, .junk, .junk, .k (.int .i64), .junk, .junk, .junk, .junk, .junk, .junk, .junk, .junk, .junk, .junk, .junk, .junk, .junk, .junk]

def L_slices_Index_int64_int64_2_b (Φ : Post) (u : (Value × Int × Int)) (N : (Value × Int × Int) → Int → World → Prop) (s : Int) (w : World) : Prop :=
  B_slices_Index_int64_int64_2 u.1 u.2.1 u.2.2 s N (fun v w => ∀ j : Nat → Value, Φ (.exit 0) (mkT j 0 L_slices_Index_int64_int64_2_e0 v) w) (fun v w => ∀ j : Nat → Value, Φ .ret (mkT j 0 L_slices_Index_int64_int64_2_rt v) w) w

theorem L_slices_Index_int64_int64_2_eq (j : Nat → Value) (u : (Value × Int × Int)) (s : Int) (N : (Value × Int × Int) → Int → World → Prop) (D0 : (Unit) → World → Prop) (R : (Int × Unit) → World → Prop) (w : World) :
    W Try.prog ty (fun _ _ _ _ => False) (loopAt Try.f124 2) (loopPost L_slices_Index_int64_int64_2_sp [(0, (⟨L_slices_Index_int64_int64_2_e0, D0⟩ : Door))] ⟨L_slices_Index_int64_int64_2_rt, R⟩ (fun v w => N ((fun v => (v.1, v.2.1, v.2.2.1)) v) ((fun v => v.2.2.2.1) v) w)) (mkT j 0 L_slices_Index_int64_int64_2_sp ((fun u s => (u.1, u.2.1, u.2.2, s, ())) u s)) w =
    B_slices_Index_int64_int64_2 u.1 u.2.1 u.2.2 s N D0 R w := by
  kernel_rfl

def O_slices_Index_int64_int64_1 : Code → Post → List SV → World → Prop :=
  orc 2 (loopAt Try.f124 2) L_slices_Index_int64_int64_2_sp (fun Φ fr w => LOOP (U := (Value × Int × Int)) (S := Int) ((fun v => (v.1, v.2.1, v.2.2.1)) (extT L_slices_Index_int64_int64_2_sp fr)) (L_slices_Index_int64_int64_2_b Φ ((fun v => (v.1, v.2.1, v.2.2.1)) (extT L_slices_Index_int64_int64_2_sp fr))) ((fun v => v.2.2.2.1) (extT L_slices_Index_int64_int64_2_sp fr)) w) (fun _ _ _ _ => False)

theorem O_slices_Index_int64_int64_1_ok : Sound Try.prog O_slices_Index_int64_int64_1 :=
  orc_ok (sound_none _) fun Φ fr w hs h => loop_ok (ty := ty) follows (sound_none _) L_slices_Index_int64_int64_2_sp (fun v => (v.1, v.2.1, v.2.2.1)) (fun v => v.2.2.2.1) (fun u s => (u.1, u.2.1, u.2.2, s, ())) (fun _ => rfl) L_slices_Index_int64_int64_2_ex L_slices_Index_int64_int64_2_rt (body := L_slices_Index_int64_int64_2_b Φ) (fun j u s w N hb => by
    have e := L_slices_Index_int64_int64_2_eq j u s N (doorOf Φ (.exit 0) L_slices_Index_int64_int64_2_e0).D (doorOf Φ .ret L_slices_Index_int64_int64_2_rt).D w
    exact Eq.mpr e hb) hs h

def V_slices_Index_int64_int64 (s0 : Value) (v1 : Int) (w : World) (K : Int → World → Prop) : Prop :=
  (QAll Try.prog (Builtin.len_ #[25] 3 #[s0]) (.int .i64) fun (x7_1 : Int) => (At (loopAt Try.f124 2) (loopAt Try.f124 2) (LOOP (U := (Value × Int × Int)) (S := Int) ((s0 : Value), v1, x7_1) (fun N_10 s_11 w_12 => B_slices_Index_int64_int64_2 (s0 : Value) v1 x7_1 s_11 N_10 (fun (v_4 : (Unit)) w_5 => ∀ _j_6 : Nat → Value, K (-1 : Int) w_5) (fun (v_7 : (Int × Unit)) w_8 => ∀ _j_9 : Nat → Value, K v_7.1 w_8) w_12) (0 : Int) w)))

theorem eq_slices_Index_int64_int64 (s0 : Value) (v1 : Int) (w : World) (K : Int → World → Prop) :
    W Try.prog ty O_slices_Index_int64_int64_1 (bodyOf Try.f124) (fnPost Try.prog Try.f124.results.toList (.one (.int .i64)) K) (frame0 [s0, (.int .i64 v1)] 19) w = V_slices_Index_int64_int64 s0 v1 w K := by
  kernel_rfl

theorem body_slices_Index_int64_int64 : Try.f124.body = some (bodyOf Try.f124) := by kernel_rfl
theorem name_slices_Index_int64_int64 : (Try.f124.name == "runtime.NumGoroutine") = false := by kernel_rfl

theorem walk_slices_Index_int64_int64 (s0 : Value) (v1 : Int) {w : World} {K : Int → World → Prop} (h : V_slices_Index_int64_int64 s0 v1 w K) : Fc Try.prog 124 #[s0, (.int .i64 v1)] w (.one (.int .i64)) K :=
  fn_ok follows O_slices_Index_int64_int64_1_ok Try.func124 name_slices_Index_int64_int64 body_slices_Index_int64_int64 Try.ntmps124 [s0, (.int .i64 v1)] (Eq.mpr (eq_slices_Index_int64_int64 s0 v1 w K) h)

-- uses S2Sl
theorem c_slices_Index_int64_int64 {s : Value} {l : List Int} {v : Int} {w : World} {K : Int → World → Prop} (h : SlI w s l)
    (hK : ∀ r : Int, (r = -1 ∧ v ∉ l ∨ ∃ i : Nat, r = i ∧ i < l.length ∧ l.getD i 0 = v ∧ ∀ j, j < i → l.getD j 0 ≠ v) → K r w) :
    Fc Try.prog F_slices_Index_int64_int64 #[s, .int .i64 v] w (.one (.int .i64)) K := by
  have hlen := h.len
  refine walk_slices_Index_int64_int64 _ _ (lenI h ?_)
  refine lp (fun i w' => 0 ≤ i ∧ i ≤ l.length ∧ w' = w ∧ ∀ j : Nat, (j : Int) < i → l.getD j 0 ≠ v) (fun i _ => (l.length - i).toNat)
    ⟨by omega, by omega, rfl, fun j hj => by omega⟩ ?_
  rintro i w1 N ⟨h0, hi, rfl, hall⟩ hN
  unfold B_slices_Index_int64_int64_2
  refine ⟨fun hlt => ?_, fun hge => ?_⟩
  · have hlt := dec_t hlt
    refine atI h h0 hlt ⟨fun he _ => hK _ (.inr ⟨i.toNat, by omega, by omega, (eq_t he).symm, fun j hj => hall j (by omega)⟩), fun hn => ?_⟩
    rw [wrap_small (by omega) (by omega)]
    refine hN _ _ ⟨by omega, by omega, rfl, fun j hj => ?_⟩ (by omega)
    by_cases hji : (j : Int) < i
    · exact hall j hji
    · have : j = i.toNat := by omega
      subst this; exact fun he => eq_f hn he.symm
  · have hge := dec_f hge
    refine fun _ => hK _ (.inl ⟨rfl, fun hm => ?_⟩)
    obtain ⟨j, hj, he⟩ := List.getElem_of_mem hm
    exact hall j (by omega) (by simpa [List.getD, hj] using he)

end Go.Proofs.Ytdkodhonaoecnaa
