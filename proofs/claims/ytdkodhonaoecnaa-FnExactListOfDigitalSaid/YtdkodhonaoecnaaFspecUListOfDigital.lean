/- The reading of spec_ListOfDigital, and its contract. No condition. -/
import Derived.Test.YtdkodhonaoecnaaTy
import Derived.Test.YtdkodhonaoecnaaS7LoD
import Derived.Test.YtdkodhonaoecnaaFspecUl01At
import Derived.Test.YtdkodhonaoecnaaFspecUl01Is
import Derived.Test.YtdkodhonaoecnaaFspecUl03Digital
namespace Go.Proofs.Ytdkodhonaoecnaa
open Go Go.RowKit Eng Mem
set_option linter.unusedVariables false
set_option maxRecDepth 100000
def B_spec_ListOfDigital_7 (x1 : Value) (list4 : Value) (d5 : Int) (N : Value → (Value × Int) → World → Prop) (D0 : (Value × Value × Unit) → World → Prop) (w : World) : Prop :=
  (QAll Try.prog (Instr.fieldAt 28 x1 0) .any fun (x23_14 : Value) => (QSub Try.prog (Instr.loadAt 2 x23_14) w (.int .i64) fun (x24_15 : Int) => (((decide (d5 < x24_15)) = true → (QSub Try.prog (Instr.loadAt 28 x1) w .any fun (x29_16 : Value) => (Fc Try.prog 65 #[x29_16, (.int .i64 (0 : Int)), (.int .i64 d5)] w (.one (.int .i64)) fun (x31_18 : Int) w_17 => (Pr Try.prog (Instr.buildSlice 25 1 #[(0, (.int .i64 x31_18))]) w_17 (.one .any) fun (x32_20 : Value) w_19 => (Pr Try.prog (Builtin.append_ #[25, 25] 25 #[list4, x32_20]) w_19 (.one .any) fun (x33_22 : Value) w_21 => N (x1 : Value) ((x33_22 : Value), (IntKind.i64.wrap (d5 + (1 : Int)))) w_21))))) ∧ ((decide (d5 < x24_15)) = false → D0 ((x1 : Value), (list4 : Value), ()) w))))

abbrev L_spec_ListOfDigital_7_e0 : List Slot := [.junk, .k .any, .junk, .junk, .k .any, .junk, .junk, .junk, .junk, .junk, .junk, .junk, .junk, .junk, .junk, .junk, .junk, .junk, .junk, .junk, .junk, .junk, .junk, .junk, .junk, .junk, .junk, .junk, .junk, .junk, .junk, .junk, .junk, .junk, .junk, .junk, .junk, .junk, .junk, .junk, .junk, .junk, .junk]

abbrev L_spec_ListOfDigital_7_sp : List Slot := [.junk, .k .any, .junk, .junk, .k .any, .k (.int .i64), .junk, .junk, .junk, .junk, .junk, .junk, .junk, .junk, .junk, .junk, .junk, .junk, .junk, .junk, .junk, .junk, .junk, .junk, .junk, .junk, .junk, .junk, .junk, .junk, .junk, .junk, .junk, .junk, .junk, .junk, .junk, .junk, .junk, .junk, .junk, .junk, .junk]
abbrev L_spec_ListOfDigital_7_ex : List (Nat × List Slot) := [(0, L_spec_ListOfDigital_7_e0)]
abbrev L_spec_ListOfDigital_7_rt : List Slot := [.junk, .junk, .junk, .junk, .junk, .junk, .junk, .junk, .junk, .junk, .junk, .junk, .junk, .junk, .junk, .junk, .junk, .junk, .junk, .junk, .junk, .junk, .junk, .junk, .junk, .junk, .junk, .junk, .junk, .junk, .junk, .junk, .junk, .junk, .junk, .junk, .junk, .junk, .junk, .junk, .junk, .junk, .junk]

def L_spec_ListOfDigital_7_b (Φ : Post) (u : Value) (N : Value → (Value × Int) → World → Prop) (s : (Value × Int)) (w : World) : Prop :=
  B_spec_ListOfDigital_7 u s.1 s.2 N (fun v w => ∀ j : Nat → Value, Φ (.exit 0) (mkT j 0 L_spec_ListOfDigital_7_e0 v) w) w

theorem L_spec_ListOfDigital_7_eq (j : Nat → Value) (u : Value) (s : (Value × Int)) (N : Value → (Value × Int) → World → Prop) (D0 : (Value × Value × Unit) → World → Prop) (R : (Unit) → World → Prop) (w : World) :
    W Try.prog ty (fun _ _ _ _ => False) (loopAt Try.f43 7) (loopPost L_spec_ListOfDigital_7_sp [(0, (⟨L_spec_ListOfDigital_7_e0, D0⟩ : Door))] ⟨L_spec_ListOfDigital_7_rt, R⟩ (fun v w => N ((fun v => v.1) v) ((fun v => (v.2.1, v.2.2.1)) v) w)) (mkT j 0 L_spec_ListOfDigital_7_sp ((fun u s => (u, s.1, s.2, ())) u s)) w =
    B_spec_ListOfDigital_7 u s.1 s.2 N D0 w := by
  kernel_rfl

def O_spec_ListOfDigital_1 : Code → Post → List SV → World → Prop :=
  orc 7 (loopAt Try.f43 7) L_spec_ListOfDigital_7_sp (fun Φ fr w => LOOP (U := Value) (S := (Value × Int)) ((fun v => v.1) (extT L_spec_ListOfDigital_7_sp fr)) (L_spec_ListOfDigital_7_b Φ ((fun v => v.1) (extT L_spec_ListOfDigital_7_sp fr))) ((fun v => (v.2.1, v.2.2.1)) (extT L_spec_ListOfDigital_7_sp fr)) w) (fun _ _ _ _ => False)

theorem O_spec_ListOfDigital_1_ok : Sound Try.prog O_spec_ListOfDigital_1 :=
  orc_ok (sound_none _) fun Φ fr w hs h => loop_ok (ty := ty) follows (sound_none _) L_spec_ListOfDigital_7_sp (fun v => v.1) (fun v => (v.2.1, v.2.2.1)) (fun u s => (u, s.1, s.2, ())) (fun _ => rfl) L_spec_ListOfDigital_7_ex L_spec_ListOfDigital_7_rt (body := L_spec_ListOfDigital_7_b Φ) (fun j u s w N hb => by
    have e := L_spec_ListOfDigital_7_eq j u s N (doorOf Φ (.exit 0) L_spec_ListOfDigital_7_e0).D (doorOf Φ .ret L_spec_ListOfDigital_7_rt).D w
    exact Eq.mpr e hb) hs h

def V_spec_ListOfDigital (x0 : Value) (w : World) (K : (Value × Int) → World → Prop) : Prop :=
  (Pr Try.prog (Instr.box 28 x0) w (.one .any) fun (x1_2 : Value) w_1 => (QSub Try.prog (Instr.loadAt 28 x1_2) w_1 .any fun (x6_3 : Value) => (Fc Try.prog 64 #[x6_3] w_1 (.one .bool) fun (x7_5 : Bool) w_4 => (((!x7_5) = true → K (((.slice none 0 0) : Value), (1 : Int)) w_4) ∧ ((!x7_5) = false → (QAll Try.prog (Instr.fieldAt 28 x1_2 0) .any fun (x9_6 : Value) => (QSub Try.prog (Instr.loadAt 2 x9_6) w_4 (.int .i64) fun (x10_7 : Int) => (((decide (x10_7 < (2 : Int))) = true → K (((.slice none 0 0) : Value), (5 : Int)) w_4) ∧ ((decide (x10_7 < (2 : Int))) = false → (QAll Try.prog (Instr.fieldAt 28 x1_2 0) .any fun (x13_8 : Value) => (QSub Try.prog (Instr.loadAt 2 x13_8) w_4 (.int .i64) fun (x14_9 : Int) => (QAll Try.prog (Instr.fieldAt 28 x1_2 0) .any fun (x15_10 : Value) => (QSub Try.prog (Instr.loadAt 2 x15_10) w_4 (.int .i64) fun (x16_11 : Int) => ((((IntKind.i64.wrap ((BitVec.toNat (BitVec.ofInt (IntKind.bits .i64) x14_9 &&& BitVec.ofInt (IntKind.bits .i64) (IntKind.i64.wrap (x16_11 - (1 : Int)))) : Nat))) != (0 : Int)) = true → K (((.slice none 0 0) : Value), (5 : Int)) w_4) ∧ (((IntKind.i64.wrap ((BitVec.toNat (BitVec.ofInt (IntKind.bits .i64) x14_9 &&& BitVec.ofInt (IntKind.bits .i64) (IntKind.i64.wrap (x16_11 - (1 : Int)))) : Nat))) != (0 : Int)) = false → (Pr Try.prog (Instr.buildSlice 25 0 #[]) w_4 (.one .any) fun (x21_13 : Value) w_12 => (At (loopAt Try.f43 7) (loopAt Try.f43 7) (LOOP (U := Value) (S := (Value × Int)) (x1_2 : Value) (fun N_35 s_36 w_37 => B_spec_ListOfDigital_7 (x1_2 : Value) s_36.1 s_36.2 N_35 (fun (v_23 : (Value × Value × Unit)) w_24 => ∀ _j_25 : Nat → Value, (∀ w_26, Drew w_24 w_26 → (QAll Try.prog (Instr.fieldAt 28 v_23.1 0) .any fun (x34_27 : Value) => (QSub Try.prog (Instr.loadAt 2 x34_27) w_26 (.int .i64) fun (x35_28 : Int) => (QAll Try.prog (Instr.fieldAt 28 v_23.1 1) .any fun (x36_29 : Value) => (QSub Try.prog (Instr.loadAt 2 x36_29) w_26 (.int .i64) fun (x37_30 : Int) => (QSub Try.prog (Instr.loadAt 28 v_23.1) w_26 .any fun (x40_31 : Value) => (Fc Try.prog 96 #[(.int .i64 x35_28), (.int .i64 x37_30), v_23.2.1] w_26 (.one .any) fun (x39_33 : Value) w_32 => (Keeps w_26 w_32 ((QAll Try.prog (do eqGuard .neq 28 (.tmp 39) (.tmp 40) x39_33 x40_31; binOp .neq 28 x39_33 x40_31) .bool fun (x41_34 : Bool) => ((x41_34 = true → K (((.slice none 0 0) : Value), (5 : Int)) w_32) ∧ (x41_34 = false → K ((v_23.2.1 : Value), (0 : Int)) w_32))))))))))))) w_37) ((x21_13 : Value), (1 : Int)) w_12))))))))))))))))))

theorem eq_spec_ListOfDigital (x0 : Value) (w : World) (K : (Value × Int) → World → Prop) :
    W Try.prog ty O_spec_ListOfDigital_1 (bodyOf Try.f43) (fnPost Try.prog Try.f43.results.toList (.two .any (.int .i64)) K) (frame0 [x0] 43) w = V_spec_ListOfDigital x0 w K := by
  kernel_rfl

theorem body_spec_ListOfDigital : Try.f43.body = some (bodyOf Try.f43) := by kernel_rfl
theorem name_spec_ListOfDigital : (Try.f43.name == "runtime.NumGoroutine") = false := by kernel_rfl

theorem walk_spec_ListOfDigital (x0 : Value) {w : World} {K : (Value × Int) → World → Prop} (h : V_spec_ListOfDigital x0 w K) : Fc Try.prog 43 #[x0] w (.two .any (.int .i64)) K :=
  fn_ok follows O_spec_ListOfDigital_1_ok Try.func43 name_spec_ListOfDigital body_spec_ListOfDigital Try.ntmps43 [x0] (Eq.mpr (eq_spec_ListOfDigital x0 w K) h)

-- uses S7LoD
theorem c_spec_ListOfDigital {c : Col} {w : World} {K : Value × Int → World → Prop} (hc : c.Ok)
    (hK : ∀ w' v, Below w.heap.size w w' → MyI w.heap.size w'.heap.size w' v (digCol c).1 → K (v, (digCol c).2) w') : Fc Try.prog F_spec_ListOfDigital #[c.val] w (.two .any (.int .i64)) K := by
  unfold digCol at hK
  refine walk_spec_ListOfDigital _ (col_box fun b w1 n1 hx => col_all hc hx (c_spec_l01Is hc fun w2 hb2 => ?_))
  have q2 := n1.below.trans (hb2.mono n1.below.size)
  have hx2 := hx.keep hb2
  refine ⟨fun hI => ?_, fun hI => ?_⟩
  · rw [if_neg (notd_t hI)] at hK
    exact hK w2 _ q2 (myI_nil _ _ _)
  have hI := notd_f hI
  rw [if_pos hI] at hK
  have n0 := hI.1; have n1' := hI.2.1; have k0 := hI.2.2.1; have k1 := hI.2.2.2.1
  refine col_n hx2 ⟨fun h2 => ?_, fun h2 => col_n hx2 (col_n hx2 ?_)⟩
  · have h2 := dec_t h2
    rw [if_neg (fun hh => by have := hh.1; unfold pow2 at this; omega)] at hK
    exact hK w2 _ q2 (myI_nil _ _ _)
  have h2 := dec_f h2
  rw [wand (by omega) n1']
  refine ⟨fun h3 => ?_, fun h3 => ?_⟩
  · rw [if_neg (fun hh => notd_t h3 hh.1)] at hK
    exact hK w2 _ q2 (myI_nil _ _ _)
  have h3 := notd_f h3
  obtain ⟨d, d1, d4, hd2⟩ := pow2_get h3
  refine nilI fun b v w3 hb3 hbel ho => ?_
  refine lp (fun s w' => 1 ≤ s.2 ∧ s.2 ≤ c.n ∧ Below w2.heap.size w2 w' ∧ ∃ b, w2.heap.size ≤ b ∧ OwnI w' b s.1 (row0 c (s.2 - 1).toNat)) (fun s _ => (c.n - s.2).toNat) ⟨by simp, by simpa using n0, hbel, b, by omega, ho⟩ ?_
  rintro ⟨v, j⟩ w4 N4 ⟨j0, j1, hb4, b4, hbb4, hO⟩ hN4
  simp only at j0 j1 hO
  unfold B_spec_ListOfDigital_7
  have hx4 := hx2.keep hb4
  have hs4 := hb4.size
  have hlen := row0_len c (j - 1).toNat
  refine col_n hx4 ⟨fun hlt => ?_, fun hge => ?_⟩
  · have hlt := dec_t hlt
    simp only at hlt
    refine col_all hc hx4 (c_spec_l01At hc (by omega) (by omega) (by omega) (by omega) (by omega) fun w5 hb5 => ?_)
    have hs5 := hb5.size
    refine appI (hO.keep hb5) (by omega) fun v' w6 b6 o6 m6 hb6 => ?_
    simp only
    rw [wrap_small (by omega) (by omega)]
    refine hN4 _ _ ⟨by simp; omega, by simp; omega, hb4.trans ((hb5.mono hs4).trans (m6.below (by omega) (by simp; omega))), b6, by omega, ?_⟩ (by simp; omega)
    simp only
    rw [show (j + 1 - 1).toNat = (j - 1).toNat + 1 from by omega, row0_succ, show (((j - 1).toNat : Int) + 1) = j from by omega]
    exact o6
  · have hge := dec_f hge
    simp only at hge
    have : j = c.n := by omega
    subst this
    intro _ w5 hd
    have hb5 := hd.below w4.heap.size
    have q5 := q2.trans ((hb4.trans (hb5.mono hs4)).mono q2.size)
    have hx5 := hx4.keep hb5
    have hO5 := hO.keep hb5
    obtain ⟨l, hl⟩ : ∃ l, row0 c (c.n - 1).toNat = l := ⟨_, rfl⟩
    have hin := row0_in hc (c.n - 1).toNat
    rw [hl] at hlen hin hO5 hK
    have hs5 := hb5.size
    have hnl : (l.length : Int) = 2 ^ d - 1 := by omega
    have hg := dig_bd hnl hin
    have hok : (colG (2 ^ d) c.k (digG l)).Ok := colG_ok (by omega) (by omega) ⟨by omega, by omega⟩ hg
    refine col_n hx5 (col_k hx5 (col_all hc hx5 ?_))
    rw [← hd2] at hK ⊢
    refine c_spec_l03Digital d4 ⟨by omega, by omega⟩ (own_slI hO5 (by omega)) hnl hin hok fun w6 hb6 => ⟨hb6, ?_⟩
    have q6 := q5.trans (hb6.mono q5.size)
    have kk := hK w6
    refine neC hok hc ⟨fun e => ?_, fun e => ?_⟩
    · have e : ¬ colG (2 ^ d) c.k (digG l) = c := notd_t e
      rw [if_neg (fun hh => e hh.2)] at kk
      exact kk _ q6 (myI_nil _ _ _)
    · have e : colG (2 ^ d) c.k (digG l) = c := notd_f e
      rw [if_pos ⟨by rw [hd2]; exact h3, e⟩] at kk
      exact kk v q6 (own_my (hO5.keep hb6) (by show l.length ≤ _; omega) (by have := q2.size; omega) (hO5.keep hb6).lt)

end Go.Proofs.Ytdkodhonaoecnaa
