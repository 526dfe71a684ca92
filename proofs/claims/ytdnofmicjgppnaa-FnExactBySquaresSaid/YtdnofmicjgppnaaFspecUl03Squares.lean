/- The reading of spec_l03Squares, and its contract. No condition. -/
import Derived.Test.YtdnofmicjgppnaaTy
import Derived.Test.YtdnofmicjgppnaaS7Sq
import Derived.Test.YtdnofmicjgppnaaFspecUl03Circular
namespace Go.Proofs.Ytdnofmicjgppnaa
open Go Go.RowKit Eng Mem
set_option linter.unusedVariables false
set_option maxRecDepth 100000
def B_spec_l03Squares_7 (p0 : Int) (x2 : Value) (list3 : Value) (d4 : Int) (colour5 : Int) (a6 : Int) (N : (Int × Value × Value × Int) → (Int × Int) → World → Prop) (D2 : (Int × Value × Value × Int × Int × Unit) → World → Prop) (w : World) : Prop :=
  (((decide (a6 < p0)) = true → (p0 ≠ 0 ∧ ((((Int.tmod (IntKind.i64.wrap (a6 * a6)) p0) == d4) = true → N (p0, (x2 : Value), (list3 : Value), d4) ((0 : Int), (IntKind.i64.wrap (a6 + (1 : Int)))) w) ∧ (((Int.tmod (IntKind.i64.wrap (a6 * a6)) p0) == d4) = false → N (p0, (x2 : Value), (list3 : Value), d4) (colour5, (IntKind.i64.wrap (a6 + (1 : Int)))) w)))) ∧ ((decide (a6 < p0)) = false → D2 (p0, (x2 : Value), (list3 : Value), d4, colour5, ()) w))

abbrev L_spec_l03Squares_7_e2 : List Slot := [.k (.int .i64), .junk, .k .any, .k .any, .k (.int .i64), .k (.int .i64), .junk, .junk, .junk, .junk, .junk, .junk, .junk, .junk, .junk, .junk, .junk, .junk, .junk, .junk, .junk, .junk, .junk, .junk, .junk, .junk, .junk, .junk, .junk, .junk, .junk, .junk, .junk]

abbrev L_spec_l03Squares_7_sp : List Slot := [.k (.int .i64), .junk, .k .any, .k .any, .k (.int .i64), .k (.int .i64), .k (.int .i64), .junk, .junk, .junk, .junk, .junk, .junk, .junk, .junk, .junk, .junk, .junk, .junk, .junk, .junk, .junk, .junk, .junk, .junk, .junk, .junk, .junk, .junk, .junk, .junk, .junk, .junk]
abbrev L_spec_l03Squares_7_ex : List (Nat × List Slot) := [(2, L_spec_l03Squares_7_e2)]
abbrev L_spec_l03Squares_7_rt : List Slot := [.junk, .junk, .junk, .junk, .junk, .junk, .junk, .junk, .junk, .junk, .junk, .junk, .junk, .junk, .junk, .junk, .junk, .junk, .junk, .junk, .junk, .junk, .junk, .junk, .junk, .junk, .junk, .junk, .junk, .junk, .junk, .junk, .junk]

def L_spec_l03Squares_7_b (Φ : Post) (u : (Int × Value × Value × Int)) (N : (Int × Value × Value × Int) → (Int × Int) → World → Prop) (s : (Int × Int)) (w : World) : Prop :=
  B_spec_l03Squares_7 u.1 u.2.1 u.2.2.1 u.2.2.2 s.1 s.2 N (fun v w => ∀ j : Nat → Value, Φ (.exit 2) (mkT j 0 L_spec_l03Squares_7_e2 v) w) w

theorem L_spec_l03Squares_7_eq (j : Nat → Value) (u : (Int × Value × Value × Int)) (s : (Int × Int)) (N : (Int × Value × Value × Int) → (Int × Int) → World → Prop) (D2 : (Int × Value × Value × Int × Int × Unit) → World → Prop) (R : (Unit) → World → Prop) (w : World) :
    W Try.prog ty (fun _ _ _ _ => False) (loopAt Try.f53 7) (loopPost L_spec_l03Squares_7_sp [(2, (⟨L_spec_l03Squares_7_e2, D2⟩ : Door))] ⟨L_spec_l03Squares_7_rt, R⟩ (fun v w => N ((fun v => (v.1, v.2.1, v.2.2.1, v.2.2.2.1)) v) ((fun v => (v.2.2.2.2.1, v.2.2.2.2.2.1)) v) w)) (mkT j 0 L_spec_l03Squares_7_sp ((fun u s => (u.1, u.2.1, u.2.2.1, u.2.2.2, s.1, s.2, ())) u s)) w =
    B_spec_l03Squares_7 u.1 u.2.1 u.2.2.1 u.2.2.2 s.1 s.2 N D2 w := by
  kernel_rfl

def O_spec_l03Squares_1 : Code → Post → List SV → World → Prop :=
  orc 7 (loopAt Try.f53 7) L_spec_l03Squares_7_sp (fun Φ fr w => LOOP (U := (Int × Value × Value × Int)) (S := (Int × Int)) ((fun v => (v.1, v.2.1, v.2.2.1, v.2.2.2.1)) (extT L_spec_l03Squares_7_sp fr)) (L_spec_l03Squares_7_b Φ ((fun v => (v.1, v.2.1, v.2.2.1, v.2.2.2.1)) (extT L_spec_l03Squares_7_sp fr))) ((fun v => (v.2.2.2.2.1, v.2.2.2.2.2.1)) (extT L_spec_l03Squares_7_sp fr)) w) (fun _ _ _ _ => False)

theorem O_spec_l03Squares_1_ok : Sound Try.prog O_spec_l03Squares_1 :=
  orc_ok (sound_none _) fun Φ fr w hs h => loop_ok (ty := ty) follows (sound_none _) L_spec_l03Squares_7_sp (fun v => (v.1, v.2.1, v.2.2.1, v.2.2.2.1)) (fun v => (v.2.2.2.2.1, v.2.2.2.2.2.1)) (fun u s => (u.1, u.2.1, u.2.2.1, u.2.2.2, s.1, s.2, ())) (fun _ => rfl) L_spec_l03Squares_7_ex L_spec_l03Squares_7_rt (body := L_spec_l03Squares_7_b Φ) (fun j u s w N hb => by
    have e := L_spec_l03Squares_7_eq j u s N (doorOf Φ (.exit 2) L_spec_l03Squares_7_e2).D (doorOf Φ .ret L_spec_l03Squares_7_rt).D w
    exact Eq.mpr e hb) hs h

def B_spec_l03Squares_3 (p0 : Int) (x2 : Value) (list3 : Value) (d4 : Int) (N : (Int × Value) → (Value × Int) → World → Prop) (D0 : (Int × Value × Value × Unit) → World → Prop) (w : World) : Prop :=
  ((2 : Int) ≠ 0 ∧ (((decide (d4 ≤ (IntKind.i64.wrap (Int.tdiv p0 (2 : Int))))) = true → (At (loopAt Try.f53 7) (loopAt Try.f53 7) (LOOP (U := (Int × Value × Value × Int)) (S := (Int × Int)) (p0, (x2 : Value), (list3 : Value), d4) (fun N_12 s_13 w_14 => B_spec_l03Squares_7 p0 (x2 : Value) (list3 : Value) d4 s_13.1 s_13.2 N_12 (fun (v_5 : (Int × Value × Value × Int × Int × Unit)) w_6 => ∀ _j_7 : Nat → Value, (Pr Try.prog (Instr.buildSlice 22 1 #[(0, (.int .i64 v_5.2.2.2.2.1))]) w_6 (.one .any) fun (x28_9 : Value) w_8 => (Pr Try.prog (Builtin.append_ #[22, 22] 22 #[v_5.2.2.1, x28_9]) w_8 (.one .any) fun (x29_11 : Value) w_10 => N (v_5.1, (v_5.2.1 : Value)) ((x29_11 : Value), (IntKind.i64.wrap (v_5.2.2.2.1 + (1 : Int)))) w_10))) w_14) ((1 : Int), (1 : Int)) w))) ∧ ((decide (d4 ≤ (IntKind.i64.wrap (Int.tdiv p0 (2 : Int))))) = false → D0 (p0, (x2 : Value), (list3 : Value), ()) w)))

abbrev L_spec_l03Squares_3_e0 : List Slot := [.k (.int .i64), .junk, .k .any, .k .any, .junk, .junk, .junk, .junk, .junk, .junk, .junk, .junk, .junk, .junk, .junk, .junk, .junk, .junk, .junk, .junk, .junk, .junk, .junk, .junk, .junk, .junk, .junk, .junk, .junk, .junk, .junk, .junk, .junk]

abbrev L_spec_l03Squares_3_sp : List Slot := [.k (.int .i64), .junk, .k .any, .k .any, .k (.int .i64), .junk, .junk, .junk, .junk, .junk, .junk, .junk, .junk, .junk, .junk, .junk, .junk, .junk, .junk, .junk, .junk, .junk, .junk, .junk, .junk, .junk, .junk, .junk, .junk, .junk, .junk, .junk, .junk]
abbrev L_spec_l03Squares_3_ex : List (Nat × List Slot) := [(0, L_spec_l03Squares_3_e0)]
abbrev L_spec_l03Squares_3_rt : List Slot := [.junk, .junk, .junk, .junk, .junk, .junk, .junk, .junk, .junk, .junk, .junk, .junk, .junk, .junk, .junk, .junk, .junk, .junk, .junk, .junk, .junk, .junk, .junk, .junk, .junk, .junk, .junk, .junk, .junk, .junk, .junk, .junk, .junk]

def L_spec_l03Squares_3_b (Φ : Post) (u : (Int × Value)) (N : (Int × Value) → (Value × Int) → World → Prop) (s : (Value × Int)) (w : World) : Prop :=
  B_spec_l03Squares_3 u.1 u.2 s.1 s.2 N (fun v w => ∀ j : Nat → Value, Φ (.exit 0) (mkT j 0 L_spec_l03Squares_3_e0 v) w) w

theorem L_spec_l03Squares_3_eq (j : Nat → Value) (u : (Int × Value)) (s : (Value × Int)) (N : (Int × Value) → (Value × Int) → World → Prop) (D0 : (Int × Value × Value × Unit) → World → Prop) (R : (Unit) → World → Prop) (w : World) :
    W Try.prog ty O_spec_l03Squares_1 (loopAt Try.f53 3) (loopPost L_spec_l03Squares_3_sp [(0, (⟨L_spec_l03Squares_3_e0, D0⟩ : Door))] ⟨L_spec_l03Squares_3_rt, R⟩ (fun v w => N ((fun v => (v.1, v.2.1)) v) ((fun v => (v.2.2.1, v.2.2.2.1)) v) w)) (mkT j 0 L_spec_l03Squares_3_sp ((fun u s => (u.1, u.2, s.1, s.2, ())) u s)) w =
    B_spec_l03Squares_3 u.1 u.2 s.1 s.2 N D0 w := by
  kernel_rfl

def O_spec_l03Squares_2 : Code → Post → List SV → World → Prop :=
  orc 3 (loopAt Try.f53 3) L_spec_l03Squares_3_sp (fun Φ fr w => LOOP (U := (Int × Value)) (S := (Value × Int)) ((fun v => (v.1, v.2.1)) (extT L_spec_l03Squares_3_sp fr)) (L_spec_l03Squares_3_b Φ ((fun v => (v.1, v.2.1)) (extT L_spec_l03Squares_3_sp fr))) ((fun v => (v.2.2.1, v.2.2.2.1)) (extT L_spec_l03Squares_3_sp fr)) w) O_spec_l03Squares_1

theorem O_spec_l03Squares_2_ok : Sound Try.prog O_spec_l03Squares_2 :=
  orc_ok O_spec_l03Squares_1_ok fun Φ fr w hs h => loop_ok (ty := ty) follows O_spec_l03Squares_1_ok L_spec_l03Squares_3_sp (fun v => (v.1, v.2.1)) (fun v => (v.2.2.1, v.2.2.2.1)) (fun u s => (u.1, u.2, s.1, s.2, ())) (fun _ => rfl) L_spec_l03Squares_3_ex L_spec_l03Squares_3_rt (body := L_spec_l03Squares_3_b Φ) (fun j u s w N hb => by
    have e := L_spec_l03Squares_3_eq j u s N (doorOf Φ (.exit 0) L_spec_l03Squares_3_e0).D (doorOf Φ .ret L_spec_l03Squares_3_rt).D w
    exact Eq.mpr e hb) hs h

def V_spec_l03Squares (p0 : Int) (w : World) (K : Value → World → Prop) : Prop :=
  (Pr Try.prog (Instr.alloc 31 true (.tuple #[])) w (.one .any) fun (x2_2 : Value) w_1 => (Pr Try.prog (Instr.buildSlice 22 0 #[]) w_1 (.one .any) fun (x7_4 : Value) w_3 => (At (loopAt Try.f53 3) (loopAt Try.f53 3) (LOOP (U := (Int × Value)) (S := (Value × Int)) (p0, (x2_2 : Value)) (fun N_23 s_24 w_25 => B_spec_l03Squares_3 p0 (x2_2 : Value) s_24.1 s_24.2 N_23 (fun (v_15 : (Int × Value × Value × Unit)) w_16 => ∀ _j_17 : Nat → Value, (Fc Try.prog 84 #[(.int .i64 v_15.1), (.int .i64 (2 : Int)), v_15.2.2.1] w_16 (.one .any) fun (x32_19 : Value) w_18 => (PrU Try.prog (Instr.storeAt 31 v_15.2.1 x32_19) w_18 fun w_20 => (QSub Try.prog (Instr.loadAt 31 v_15.2.1) w_20 .any fun (r_22 : Value) => K (r_22 : Value) w_20)))) w_25) ((x7_4 : Value), (1 : Int)) w_3))))

theorem eq_spec_l03Squares (p0 : Int) (w : World) (K : Value → World → Prop) :
    W Try.prog ty O_spec_l03Squares_2 (bodyOf Try.f53) (fnPost Try.prog Try.f53.results.toList (.one .any) K) (frame0 [(.int .i64 p0)] 33) w = V_spec_l03Squares p0 w K := by
  kernel_rfl

theorem body_spec_l03Squares : Try.f53.body = some (bodyOf Try.f53) := by kernel_rfl
theorem name_spec_l03Squares : (Try.f53.name == "runtime.NumGoroutine") = false := by kernel_rfl

theorem walk_spec_l03Squares (p0 : Int) {w : World} {K : Value → World → Prop} (h : V_spec_l03Squares p0 w K) : Fc Try.prog 53 #[(.int .i64 p0)] w (.one .any) K :=
  fn_ok follows O_spec_l03Squares_2_ok Try.func53 name_spec_l03Squares body_spec_l03Squares Try.ntmps53 [(.int .i64 p0)] (Eq.mpr (eq_spec_l03Squares p0 w K) h)

-- uses S7Sq
theorem c_spec_l03Squares {p : Int} {w : World} {K : Value → World → Prop} (hp : p = 5 ∨ p = 13 ∨ p = 17) (hK : ∀ w', Below w.heap.size w w' → K (colG p 2 (diffG (sqL p (p - 1).toNat) p)).val w') :
    Fc Try.prog F_spec_l03Squares #[.int .i64 p] w (.one .any) K := by
  refine walk_spec_l03Squares _ (c_alloc fun q w1 hb1 hv => nilI fun b v w2 hb hbel ho => ?_)
  have hs1 := hb1.size; have hs2 := hbel.size
  refine lp (fun s w' => 1 ≤ s.2 ∧ s.2 ≤ p / 2 + 1 ∧ Below w1.heap.size w1 w' ∧ ∃ b, w1.heap.size ≤ b ∧ OwnI w' b s.1 (sqC p (s.2 - 1).toNat)) (fun s _ => (p / 2 + 1 - s.2).toNat) ⟨by simp, by simp; omega, hbel, b, by omega, ho⟩ ?_
  rintro ⟨v, d⟩ w3 N ⟨d0, d1, hb3, b3, hbb3, hO⟩ hN
  simp only at d0 d1 hO
  unfold B_spec_l03Squares_3
  refine ⟨by decide, ?_⟩
  rw [show Int.tdiv p 2 = p / 2 from by rw [Int.tdiv_eq_ediv_of_nonneg (by omega)], wrap_small (by omega) (by omega)]
  refine ⟨fun hle => ?_, fun hgt => ?_⟩
  · have hle := dec_t hle
    simp only at hle
    refine lp (fun s w' => 1 ≤ s.2 ∧ s.2 ≤ p ∧ w' = w3 ∧ s.1 = if (sqL p (s.2 - 1).toNat).contains d then 0 else 1) (fun s _ => (p - s.2).toNat) ⟨by simp, by simp; omega, rfl, by simp [sqL]⟩ ?_
    rintro ⟨col, a⟩ w4 N' ⟨a0, a1, rfl, hc⟩ hN'
    simp only at a0 a1 hc
    unfold B_spec_l03Squares_7
    have hsucc := sqL_succ p (a - 1).toNat
    rw [show (((a - 1).toNat : Int) + 1) = a from by omega] at hsucc
    refine ⟨fun hlt => ⟨by omega, ?_⟩, fun hge => ?_⟩
    · have hlt := dec_t hlt
      simp only at hlt
      have hsq : 0 ≤ a * a ∧ a * a ≤ 289 := ⟨Int.mul_nonneg (by omega) (by omega), Int.mul_le_mul (a := a) (b := a) (c := 17) (d := 17) (by omega) (by omega) (by omega) (by omega)⟩
      simp only
      rw [wrap_small (n := a * a) (by omega) (by omega), wrap_small (n := a + 1) (by omega) (by omega)]
      refine ⟨fun he => ?_, fun hn => ?_⟩
      · have he := eq_t he
        refine hN' _ _ ⟨by simp; omega, by simp; omega, rfl, ?_⟩ (by simp; omega)
        simp only
        rw [show (a + 1 - 1).toNat = (a - 1).toNat + 1 from by omega, hsucc, he]
        simp
      · have hn := eq_f hn
        refine hN' _ _ ⟨by simp; omega, by simp; omega, rfl, ?_⟩ (by simp; omega)
        simp only
        rw [show (a + 1 - 1).toNat = (a - 1).toNat + 1 from by omega, hsucc, hc]
        have : ((sqL p (a - 1).toNat ++ [Int.tmod (a * a) p]).contains d) = (sqL p (a - 1).toNat).contains d := by
          rw [Bool.eq_iff_iff]
          simp only [List.contains_iff_mem, List.mem_append, List.mem_singleton]
          exact ⟨fun h => h.elim id fun h => absurd h.symm hn, .inl⟩
        rw [this]
    · have hge := dec_f hge
      simp only at hge
      have : a = p := by omega
      subst this
      intro _
      have hlen : (sqC a (d - 1).toNat).length = (d - 1).toNat := by simp [sqC]
      refine appI hO (by omega) fun v' w5 b5 o m hb5 => ?_
      have hs3 := hb3.size
      show N (a, q) (v', IntKind.i64.wrap (d + 1)) w5
      rw [wrap_small (by omega) (by omega)]
      refine hN _ _ ⟨by simp; omega, by simp; omega, hb3.trans (m.below (by omega) (by simp; omega)), b5, by omega, ?_⟩ (by simp; omega)
      simp only
      rw [show (d + 1 - 1).toNat = (d - 1).toNat + 1 from by omega, sqC_succ, show (((d - 1).toNat : Int) + 1) = d from by omega, ← hc]
      exact o
  · have hgt := dec_f hgt
    simp only at hgt
    have : d = p / 2 + 1 := by omega
    subst this
    intro _
    rw [show (p / 2 + 1 - 1).toNat = (p / 2).toNat from by omega] at hO
    have hlen : (sqC p (p / 2).toNat).length = (p / 2).toNat := by simp [sqC]
    have hin := sqC_in p (p / 2).toNat
    have hsame := sq_col hp
    have hok := diff_ok (sqL p (p - 1).toNat) (n := p) (by omega) (by omega)
    rw [← hsame] at hok hK
    have hs3 := hb3.size
    refine c_spec_l03Circular (by omega) (by omega) (by omega) (own_slI hO (by omega)) (by omega) (fun x hx => by have := hin x hx; omega) hok fun w4 hb4 => ?_
    have hs4 := hb4.size
    exact c_ret hok ((hv.keep hb3).keep hb4) (by omega) fun w5 hb5 => hK w5 (((hb1.trans (hb3.mono hs1)).trans (hb4.mono (by omega))).trans hb5)

end Go.Proofs.Ytdnofmicjgppnaa
