/- The reading of impl_BySquares, and its contract. No condition. -/
import Derived.Test.YtdnofmicjgppnaaTy
import Derived.Test.YtdnofmicjgppnaaS7Sq
import Derived.Test.YtdnofmicjgppnaaFimplUbyDifference
namespace Go.Proofs.Ytdnofmicjgppnaa
open Go Go.RowKit Eng Mem
set_option linter.unusedVariables false
set_option maxRecDepth 100000
def B_impl_BySquares_5 (p0 : Int) (x2 : Value) (list4 : Value) (i5 : Int) (N : (Int × Value) → (Value × Int) → World → Prop) (D0 : (Int × Value × Value × Unit) → World → Prop) (w : World) : Prop :=
  (((decide (i5 < p0)) = true → (p0 ≠ 0 ∧ (Pr Try.prog (Instr.buildSlice 22 1 #[(0, (.int .i64 (Int.tmod (IntKind.i64.wrap (i5 * i5)) p0)))]) w (.one .any) fun (x29_11 : Value) w_10 => (Pr Try.prog (Builtin.append_ #[22, 22] 22 #[list4, x29_11]) w_10 (.one .any) fun (x30_13 : Value) w_12 => N (p0, (x2 : Value)) ((x30_13 : Value), (IntKind.i64.wrap (i5 + (1 : Int)))) w_12)))) ∧ ((decide (i5 < p0)) = false → D0 (p0, (x2 : Value), (list4 : Value), ()) w))

abbrev L_impl_BySquares_5_e0 : List Slot := [.k (.int .i64), .junk, .k .any, .junk, .k .any, .junk, .junk, .junk, .junk, .junk, .junk, .junk, .junk, .junk, .junk, .junk, .junk, .junk, .junk, .junk, .junk, .junk, .junk, .junk, .junk, .junk, .junk, .junk, .junk, .junk, .junk, .junk, .junk, .junk]

abbrev L_impl_BySquares_5_sp : List Slot := [.k (.int .i64), .junk, .k .any, .junk, .k .any, .k (.int .i64), .junk, .junk, .junk, .junk, .junk, .junk, .junk, .junk, .junk, .junk, .junk, .junk, .junk, .junk, .junk, .junk, .junk, .junk, .junk, .junk, .junk, .junk, .junk, .junk, .junk, .junk, .junk, .junk]
abbrev L_impl_BySquares_5_ex : List (Nat × List Slot) := [(0, L_impl_BySquares_5_e0)]
abbrev L_impl_BySquares_5_rt : List Slot := [.junk, .junk, .junk, .junk, .junk, .junk, .junk, .junk, .junk, .junk, .junk, .junk, .junk, .junk, .junk, .junk, .junk, .junk, .junk, .junk, .junk, .junk, .junk, .junk, .junk, .junk, .junk, .junk, .junk, .junk, .junk, .junk, .junk, .junk]

def L_impl_BySquares_5_b (Φ : Post) (u : (Int × Value)) (N : (Int × Value) → (Value × Int) → World → Prop) (s : (Value × Int)) (w : World) : Prop :=
  B_impl_BySquares_5 u.1 u.2 s.1 s.2 N (fun v w => ∀ j : Nat → Value, Φ (.exit 0) (mkT j 0 L_impl_BySquares_5_e0 v) w) w

theorem L_impl_BySquares_5_eq (j : Nat → Value) (u : (Int × Value)) (s : (Value × Int)) (N : (Int × Value) → (Value × Int) → World → Prop) (D0 : (Int × Value × Value × Unit) → World → Prop) (R : (Unit) → World → Prop) (w : World) :
    W Try.prog ty (fun _ _ _ _ => False) (loopAt Try.f24 5) (loopPost L_impl_BySquares_5_sp [(0, (⟨L_impl_BySquares_5_e0, D0⟩ : Door))] ⟨L_impl_BySquares_5_rt, R⟩ (fun v w => N ((fun v => (v.1, v.2.1)) v) ((fun v => (v.2.2.1, v.2.2.2.1)) v) w)) (mkT j 0 L_impl_BySquares_5_sp ((fun u s => (u.1, u.2, s.1, s.2, ())) u s)) w =
    B_impl_BySquares_5 u.1 u.2 s.1 s.2 N D0 w := by
  kernel_rfl

def O_impl_BySquares_1 : Code → Post → List SV → World → Prop :=
  orc 5 (loopAt Try.f24 5) L_impl_BySquares_5_sp (fun Φ fr w => LOOP (U := (Int × Value)) (S := (Value × Int)) ((fun v => (v.1, v.2.1)) (extT L_impl_BySquares_5_sp fr)) (L_impl_BySquares_5_b Φ ((fun v => (v.1, v.2.1)) (extT L_impl_BySquares_5_sp fr))) ((fun v => (v.2.2.1, v.2.2.2.1)) (extT L_impl_BySquares_5_sp fr)) w) (fun _ _ _ _ => False)

theorem O_impl_BySquares_1_ok : Sound Try.prog O_impl_BySquares_1 :=
  orc_ok (sound_none _) fun Φ fr w hs h => loop_ok (ty := ty) follows (sound_none _) L_impl_BySquares_5_sp (fun v => (v.1, v.2.1)) (fun v => (v.2.2.1, v.2.2.2.1)) (fun u s => (u.1, u.2, s.1, s.2, ())) (fun _ => rfl) L_impl_BySquares_5_ex L_impl_BySquares_5_rt (body := L_impl_BySquares_5_b Φ) (fun j u s w N hb => by
    have e := L_impl_BySquares_5_eq j u s N (doorOf Φ (.exit 0) L_impl_BySquares_5_e0).D (doorOf Φ .ret L_impl_BySquares_5_rt).D w
    exact Eq.mpr e hb) hs h

def V_impl_BySquares (p0 : Int) (w : World) (K : (Value × Int) → World → Prop) : Prop :=
  (Pr Try.prog (Instr.alloc 31 true (.tuple #[])) w (.one .any) fun (x2_2 : Value) w_1 => (((p0 != (5 : Int)) = true → (((p0 != (13 : Int)) = true → (((p0 != (17 : Int)) = true → (Pr Try.prog (Instr.build 31 #[]) w_1 (.one .any) fun (x16_4 : Value) w_3 => (PrU Try.prog (Instr.storeAt 31 x2_2 x16_4) w_3 fun w_5 => (QSub Try.prog (Instr.loadAt 31 x2_2) w_5 .any fun (r_7 : Value) => K ((r_7 : Value), (2 : Int)) w_5)))) ∧ ((p0 != (17 : Int)) = false → (Pr Try.prog (Instr.buildSlice 22 0 #[]) w_1 (.one .any) fun (x17_9 : Value) w_8 => (At (loopAt Try.f24 5) (loopAt Try.f24 5) (LOOP (U := (Int × Value)) (S := (Value × Int)) (p0, (x2_2 : Value)) (fun N_22 s_23 w_24 => B_impl_BySquares_5 p0 (x2_2 : Value) s_23.1 s_23.2 N_22 (fun (v_14 : (Int × Value × Value × Unit)) w_15 => ∀ _j_16 : Nat → Value, (Fc Try.prog 54 #[(.int .i64 v_14.1), v_14.2.2.1] w_15 (.one .any) fun (x33_18 : Value) w_17 => (PrU Try.prog (Instr.storeAt 31 v_14.2.1 x33_18) w_17 fun w_19 => (QSub Try.prog (Instr.loadAt 31 v_14.2.1) w_19 .any fun (r_21 : Value) => K ((r_21 : Value), (0 : Int)) w_19)))) w_24) ((x17_9 : Value), (1 : Int)) w_8)))))) ∧ ((p0 != (13 : Int)) = false → (Pr Try.prog (Instr.buildSlice 22 0 #[]) w_1 (.one .any) fun (x17_26 : Value) w_25 => (At (loopAt Try.f24 5) (loopAt Try.f24 5) (LOOP (U := (Int × Value)) (S := (Value × Int)) (p0, (x2_2 : Value)) (fun N_35 s_36 w_37 => B_impl_BySquares_5 p0 (x2_2 : Value) s_36.1 s_36.2 N_35 (fun (v_27 : (Int × Value × Value × Unit)) w_28 => ∀ _j_29 : Nat → Value, (Fc Try.prog 54 #[(.int .i64 v_27.1), v_27.2.2.1] w_28 (.one .any) fun (x33_31 : Value) w_30 => (PrU Try.prog (Instr.storeAt 31 v_27.2.1 x33_31) w_30 fun w_32 => (QSub Try.prog (Instr.loadAt 31 v_27.2.1) w_32 .any fun (r_34 : Value) => K ((r_34 : Value), (0 : Int)) w_32)))) w_37) ((x17_26 : Value), (1 : Int)) w_25)))))) ∧ ((p0 != (5 : Int)) = false → (Pr Try.prog (Instr.buildSlice 22 0 #[]) w_1 (.one .any) fun (x17_39 : Value) w_38 => (At (loopAt Try.f24 5) (loopAt Try.f24 5) (LOOP (U := (Int × Value)) (S := (Value × Int)) (p0, (x2_2 : Value)) (fun N_48 s_49 w_50 => B_impl_BySquares_5 p0 (x2_2 : Value) s_49.1 s_49.2 N_48 (fun (v_40 : (Int × Value × Value × Unit)) w_41 => ∀ _j_42 : Nat → Value, (Fc Try.prog 54 #[(.int .i64 v_40.1), v_40.2.2.1] w_41 (.one .any) fun (x33_44 : Value) w_43 => (PrU Try.prog (Instr.storeAt 31 v_40.2.1 x33_44) w_43 fun w_45 => (QSub Try.prog (Instr.loadAt 31 v_40.2.1) w_45 .any fun (r_47 : Value) => K ((r_47 : Value), (0 : Int)) w_45)))) w_50) ((x17_39 : Value), (1 : Int)) w_38))))))

theorem eq_impl_BySquares (p0 : Int) (w : World) (K : (Value × Int) → World → Prop) :
    W Try.prog ty O_impl_BySquares_1 (bodyOf Try.f24) (fnPost Try.prog Try.f24.results.toList (.two .any (.int .i64)) K) (frame0 [(.int .i64 p0)] 34) w = V_impl_BySquares p0 w K := by
  kernel_rfl

theorem body_impl_BySquares : Try.f24.body = some (bodyOf Try.f24) := by kernel_rfl
theorem name_impl_BySquares : (Try.f24.name == "runtime.NumGoroutine") = false := by kernel_rfl

theorem walk_impl_BySquares (p0 : Int) {w : World} {K : (Value × Int) → World → Prop} (h : V_impl_BySquares p0 w K) : Fc Try.prog 24 #[(.int .i64 p0)] w (.two .any (.int .i64)) K :=
  fn_ok follows O_impl_BySquares_1_ok Try.func24 name_impl_BySquares body_impl_BySquares Try.ntmps24 [(.int .i64 p0)] (Eq.mpr (eq_impl_BySquares p0 w K) h)

-- uses S7Sq
theorem c_impl_BySquares {p : Int} {w : World} {K : Value × Int → World → Prop} (_ : I64 p) (hK : ∀ w', Below w.heap.size w w' → (sqOf p).1.Ok → K ((sqOf p).1.val, (sqOf p).2) w') :
    Fc Try.prog F_impl_BySquares #[.int .i64 p] w (.two .any (.int .i64)) K := by
  have yes : (p = 5 ∨ p = 13 ∨ p = 17) → ∀ w', Below w.heap.size w w' → K ((colG p 2 (diffG (sqL p (p - 1).toNat) p)).val, 0) w' := fun hp w' hb => by
    have := hK w' hb (sqOf_ok p); unfold sqOf at this; rwa [if_pos hp] at this
  refine walk_impl_BySquares _ (c_alloc fun q w1 hb1 hv => ?_)
  have hs1 := hb1.size
  refine ⟨fun h5 => ⟨fun h13 => ⟨fun h17 => ?_, fun h17 => ?_⟩, fun h13 => ?_⟩, fun h5 => ?_⟩
  · have h5 := ne_t h5; have h13 := ne_t h13; have h17 := ne_t h17
    refine c_none hv hs1 fun w' hb' => ?_
    have := hK w' (hb1.trans hb') (sqOf_ok p)
    unfold sqOf at this
    rwa [if_neg (by omega)] at this
  · have hp : p = 5 ∨ p = 13 ∨ p = 17 := by have := ne_f h17; omega
    refine nilI fun b v w2 hb hbel ho => ?_
    refine lp (fun s w' => 1 ≤ s.2 ∧ s.2 ≤ p ∧ Below w1.heap.size w1 w' ∧ ∃ b, w1.heap.size ≤ b ∧ OwnI w' b s.1 (sqL p (s.2 - 1).toNat)) (fun s _ => (p - s.2).toNat) ⟨by simp, by simp; omega, hbel, b, by omega, ho⟩ ?_
    rintro ⟨v, i⟩ w' N ⟨i0, i1, hb', b', hbb, hO⟩ hN
    simp only at i0 i1 hO
    unfold B_impl_BySquares_5
    refine ⟨fun hlt => ?_, fun hge => ?_⟩
    · have hlt := dec_t hlt
      simp only at hlt
      have hsq : 0 ≤ i * i ∧ i * i ≤ 289 := ⟨Int.mul_nonneg (by omega) (by omega), Int.mul_le_mul (a := i) (b := i) (c := 17) (d := 17) (by omega) (by omega) (by omega) (by omega)⟩
      refine ⟨by omega, ?_⟩
      simp only
      rw [wrap_small (n := i * i) (by omega) (by omega)]
      have hlen : (sqL p (i - 1).toNat).length = (i - 1).toNat := by simp [sqL]
      refine appI hO (by omega) fun v' w3 b3 o m hb3 => ?_
      rw [wrap_small (by omega) (by omega)]
      have hs' := hb'.size
      refine hN _ _ ⟨by simp; omega, by simp; omega, hb'.trans (m.below (by omega) (by simp; omega)), b3, by omega, ?_⟩ (by simp; omega)
      simp only
      rw [show (i + 1 - 1).toNat = (i - 1).toNat + 1 from by omega, sqL_succ, show (((i - 1).toNat : Int) + 1) = i from by omega]
      exact o
    · have hge := dec_f hge
      simp only at hge
      have : i = p := by omega
      subst this
      intro _
      have hlen : (sqL i (i - 1).toNat).length = (i - 1).toNat := by simp [sqL]
      refine c_impl_byDifference (own_slI hO (by omega)) (by omega) (by omega) fun w4 hb4 => ?_
      have hs' := hb'.size; have hs4 := hb4.size
      have hv4 := (hv.keep hb').keep hb4
      exact c_ret (diff_ok _ (by omega) (by omega)) hv4 (by omega) fun w5 hb5 => yes hp w5 (((hb1.trans (hb'.mono hs1)).trans (hb4.mono (by omega))).trans hb5)
  · have hp : p = 5 ∨ p = 13 ∨ p = 17 := by have := ne_f h13; omega
    refine nilI fun b v w2 hb hbel ho => ?_
    refine lp (fun s w' => 1 ≤ s.2 ∧ s.2 ≤ p ∧ Below w1.heap.size w1 w' ∧ ∃ b, w1.heap.size ≤ b ∧ OwnI w' b s.1 (sqL p (s.2 - 1).toNat)) (fun s _ => (p - s.2).toNat) ⟨by simp, by simp; omega, hbel, b, by omega, ho⟩ ?_
    rintro ⟨v, i⟩ w' N ⟨i0, i1, hb', b', hbb, hO⟩ hN
    simp only at i0 i1 hO
    unfold B_impl_BySquares_5
    refine ⟨fun hlt => ?_, fun hge => ?_⟩
    · have hlt := dec_t hlt
      simp only at hlt
      have hsq : 0 ≤ i * i ∧ i * i ≤ 289 := ⟨Int.mul_nonneg (by omega) (by omega), Int.mul_le_mul (a := i) (b := i) (c := 17) (d := 17) (by omega) (by omega) (by omega) (by omega)⟩
      refine ⟨by omega, ?_⟩
      simp only
      rw [wrap_small (n := i * i) (by omega) (by omega)]
      have hlen : (sqL p (i - 1).toNat).length = (i - 1).toNat := by simp [sqL]
      refine appI hO (by omega) fun v' w3 b3 o m hb3 => ?_
      rw [wrap_small (by omega) (by omega)]
      have hs' := hb'.size
      refine hN _ _ ⟨by simp; omega, by simp; omega, hb'.trans (m.below (by omega) (by simp; omega)), b3, by omega, ?_⟩ (by simp; omega)
      simp only
      rw [show (i + 1 - 1).toNat = (i - 1).toNat + 1 from by omega, sqL_succ, show (((i - 1).toNat : Int) + 1) = i from by omega]
      exact o
    · have hge := dec_f hge
      simp only at hge
      have : i = p := by omega
      subst this
      intro _
      have hlen : (sqL i (i - 1).toNat).length = (i - 1).toNat := by simp [sqL]
      refine c_impl_byDifference (own_slI hO (by omega)) (by omega) (by omega) fun w4 hb4 => ?_
      have hs' := hb'.size; have hs4 := hb4.size
      have hv4 := (hv.keep hb').keep hb4
      exact c_ret (diff_ok _ (by omega) (by omega)) hv4 (by omega) fun w5 hb5 => yes hp w5 (((hb1.trans (hb'.mono hs1)).trans (hb4.mono (by omega))).trans hb5)
  · have hp : p = 5 ∨ p = 13 ∨ p = 17 := by have := ne_f h5; omega
    refine nilI fun b v w2 hb hbel ho => ?_
    refine lp (fun s w' => 1 ≤ s.2 ∧ s.2 ≤ p ∧ Below w1.heap.size w1 w' ∧ ∃ b, w1.heap.size ≤ b ∧ OwnI w' b s.1 (sqL p (s.2 - 1).toNat)) (fun s _ => (p - s.2).toNat) ⟨by simp, by simp; omega, hbel, b, by omega, ho⟩ ?_
    rintro ⟨v, i⟩ w' N ⟨i0, i1, hb', b', hbb, hO⟩ hN
    simp only at i0 i1 hO
    unfold B_impl_BySquares_5
    refine ⟨fun hlt => ?_, fun hge => ?_⟩
    · have hlt := dec_t hlt
      simp only at hlt
      have hsq : 0 ≤ i * i ∧ i * i ≤ 289 := ⟨Int.mul_nonneg (by omega) (by omega), Int.mul_le_mul (a := i) (b := i) (c := 17) (d := 17) (by omega) (by omega) (by omega) (by omega)⟩
      refine ⟨by omega, ?_⟩
      simp only
      rw [wrap_small (n := i * i) (by omega) (by omega)]
      have hlen : (sqL p (i - 1).toNat).length = (i - 1).toNat := by simp [sqL]
      refine appI hO (by omega) fun v' w3 b3 o m hb3 => ?_
      rw [wrap_small (by omega) (by omega)]
      have hs' := hb'.size
      refine hN _ _ ⟨by simp; omega, by simp; omega, hb'.trans (m.below (by omega) (by simp; omega)), b3, by omega, ?_⟩ (by simp; omega)
      simp only
      rw [show (i + 1 - 1).toNat = (i - 1).toNat + 1 from by omega, sqL_succ, show (((i - 1).toNat : Int) + 1) = i from by omega]
      exact o
    · have hge := dec_f hge
      simp only at hge
      have : i = p := by omega
      subst this
      intro _
      have hlen : (sqL i (i - 1).toNat).length = (i - 1).toNat := by simp [sqL]
      refine c_impl_byDifference (own_slI hO (by omega)) (by omega) (by omega) fun w4 hb4 => ?_
      have hs' := hb'.size; have hs4 := hb4.size
      have hv4 := (hv.keep hb').keep hb4
      exact c_ret (diff_ok _ (by omega) (by omega)) hv4 (by omega) fun w5 hb5 => yes hp w5 (((hb1.trans (hb'.mono hs1)).trans (hb4.mono (by omega))).trans hb5)

end Go.Proofs.Ytdnofmicjgppnaa
