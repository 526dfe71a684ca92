/- The reading of spec_PartOfColouring, and its contract. No condition. -/
import Derived.Test.YtdkodhonaoecnaaTy
import Derived.Test.YtdkodhonaoecnaaS7Chg
import Derived.Test.YtdkodhonaoecnaaFspecUl01At
import Derived.Test.YtdkodhonaoecnaaFspecUl01Is
import Derived.Test.YtdkodhonaoecnaaFspecUl07Colouring
namespace Go.Proofs.Ytdkodhonaoecnaa
open Go Go.RowKit Eng Mem
set_option linter.unusedVariables false
set_option maxRecDepth 100000
def B_spec_PartOfColouring_7 (x1 : Value) (part4 : Value) (j5 : Int) (N : Value → (Value × Int) → World → Prop) (D1 : (Value × Value × Unit) → World → Prop) (w : World) : Prop :=
  (QAll Try.prog (Instr.fieldAt 28 x1 0) .any fun (x16_10 : Value) => (QSub Try.prog (Instr.loadAt 2 x16_10) w (.int .i64) fun (x17_11 : Int) => (((decide (j5 < x17_11)) = true → (QSub Try.prog (Instr.loadAt 28 x1) w .any fun (x22_12 : Value) => (Fc Try.prog 65 #[x22_12, (.int .i64 (0 : Int)), (.int .i64 j5)] w (.one (.int .i64)) fun (x24_14 : Int) w_13 => (Pr Try.prog (Instr.buildSlice 25 1 #[(0, (.int .i64 x24_14))]) w_13 (.one .any) fun (x25_16 : Value) w_15 => (Pr Try.prog (Builtin.append_ #[25, 25] 25 #[part4, x25_16]) w_15 (.one .any) fun (x26_18 : Value) w_17 => N (x1 : Value) ((x26_18 : Value), (IntKind.i64.wrap (j5 + (1 : Int)))) w_17))))) ∧ ((decide (j5 < x17_11)) = false → D1 ((x1 : Value), (part4 : Value), ()) w))))

abbrev L_spec_PartOfColouring_7_e1 : List Slot := [.junk, .k .any, .junk, .junk, .k .any, .junk, .junk, .junk, .junk, .junk, .junk, .junk, .junk, .junk, .junk, .junk, .junk, .junk, .junk, .junk, .junk, .junk, .junk, .junk, .junk, .junk, .junk, .junk, .junk, .junk, .junk, .junk, .junk, .junk]

abbrev L_spec_PartOfColouring_7_sp : List Slot := [.junk, .k .any, .junk, .junk, .k .any, .k (.int .i64), .junk, .junk, .junk, .junk, .junk, .junk, .junk, .junk, .junk, .junk, .junk, .junk, .junk, .junk, .junk, .junk, .junk, .junk, .junk, .junk, .junk, .junk, .junk, .junk, .junk, .junk, .junk, .junk]
abbrev L_spec_PartOfColouring_7_ex : List (Nat × List Slot) := [(1, L_spec_PartOfColouring_7_e1)]
abbrev L_spec_PartOfColouring_7_rt : List Slot := [.junk, .junk, .junk, .junk, .junk, .junk, .junk, .junk, .junk, .junk, .junk, .junk, .junk, .junk, .junk, .junk, .junk, .junk, .junk, .junk, .junk, .junk, .junk, .junk, .junk, .junk, .junk, .junk, .junk, .junk, .junk, .junk, .junk, .junk]

def L_spec_PartOfColouring_7_b (Φ : Post) (u : Value) (N : Value → (Value × Int) → World → Prop) (s : (Value × Int)) (w : World) : Prop :=
  B_spec_PartOfColouring_7 u s.1 s.2 N (fun v w => ∀ j : Nat → Value, Φ (.exit 1) (mkT j 0 L_spec_PartOfColouring_7_e1 v) w) w

theorem L_spec_PartOfColouring_7_eq (j : Nat → Value) (u : Value) (s : (Value × Int)) (N : Value → (Value × Int) → World → Prop) (D1 : (Value × Value × Unit) → World → Prop) (R : (Unit) → World → Prop) (w : World) :
    W Try.prog ty (fun _ _ _ _ => False) (loopAt Try.f41 7) (loopPost L_spec_PartOfColouring_7_sp [(1, (⟨L_spec_PartOfColouring_7_e1, D1⟩ : Door))] ⟨L_spec_PartOfColouring_7_rt, R⟩ (fun v w => N ((fun v => v.1) v) ((fun v => (v.2.1, v.2.2.1)) v) w)) (mkT j 0 L_spec_PartOfColouring_7_sp ((fun u s => (u, s.1, s.2, ())) u s)) w =
    B_spec_PartOfColouring_7 u s.1 s.2 N D1 w := by
  kernel_rfl

def O_spec_PartOfColouring_1 : Code → Post → List SV → World → Prop :=
  orc 7 (loopAt Try.f41 7) L_spec_PartOfColouring_7_sp (fun Φ fr w => LOOP (U := Value) (S := (Value × Int)) ((fun v => v.1) (extT L_spec_PartOfColouring_7_sp fr)) (L_spec_PartOfColouring_7_b Φ ((fun v => v.1) (extT L_spec_PartOfColouring_7_sp fr))) ((fun v => (v.2.1, v.2.2.1)) (extT L_spec_PartOfColouring_7_sp fr)) w) (fun _ _ _ _ => False)

theorem O_spec_PartOfColouring_1_ok : Sound Try.prog O_spec_PartOfColouring_1 :=
  orc_ok (sound_none _) fun Φ fr w hs h => loop_ok (ty := ty) follows (sound_none _) L_spec_PartOfColouring_7_sp (fun v => v.1) (fun v => (v.2.1, v.2.2.1)) (fun u s => (u, s.1, s.2, ())) (fun _ => rfl) L_spec_PartOfColouring_7_ex L_spec_PartOfColouring_7_rt (body := L_spec_PartOfColouring_7_b Φ) (fun j u s w N hb => by
    have e := L_spec_PartOfColouring_7_eq j u s N (doorOf Φ (.exit 1) L_spec_PartOfColouring_7_e1).D (doorOf Φ .ret L_spec_PartOfColouring_7_rt).D w
    exact Eq.mpr e hb) hs h

def V_spec_PartOfColouring (x0 : Value) (w : World) (K : (Value × Int) → World → Prop) : Prop :=
  (Pr Try.prog (Instr.box 28 x0) w (.one .any) fun (x1_2 : Value) w_1 => (QSub Try.prog (Instr.loadAt 28 x1_2) w_1 .any fun (x7_3 : Value) => (Fc Try.prog 64 #[x7_3] w_1 (.one .bool) fun (x8_5 : Bool) w_4 => (((!x8_5) = true → K (((.slice none 0 0) : Value), (1 : Int)) w_4) ∧ ((!x8_5) = false → (QAll Try.prog (Instr.fieldAt 28 x1_2 1) .any fun (x11_6 : Value) => (QSub Try.prog (Instr.loadAt 2 x11_6) w_4 (.int .i64) fun (x12_7 : Int) => (((decide (x12_7 > (3 : Int))) = true → K (((.slice none 0 0) : Value), (2 : Int)) w_4) ∧ ((decide (x12_7 > (3 : Int))) = false → (Pr Try.prog (Instr.buildSlice 25 0 #[]) w_4 (.one .any) fun (x14_9 : Value) w_8 => (At (loopAt Try.f41 7) (loopAt Try.f41 7) (LOOP (U := Value) (S := (Value × Int)) (x1_2 : Value) (fun N_29 s_30 w_31 => B_spec_PartOfColouring_7 (x1_2 : Value) s_30.1 s_30.2 N_29 (fun (v_19 : (Value × Value × Unit)) w_20 => ∀ _j_21 : Nat → Value, (∀ w_22, Drew w_20 w_22 → (QAll Try.prog (Instr.fieldAt 28 v_19.1 1) .any fun (x27_23 : Value) => (QSub Try.prog (Instr.loadAt 2 x27_23) w_22 (.int .i64) fun (x28_24 : Int) => (QSub Try.prog (Instr.loadAt 28 v_19.1) w_22 .any fun (x31_25 : Value) => (Fc Try.prog 92 #[(.int .i64 x28_24), v_19.2.1] w_22 (.one .any) fun (x30_27 : Value) w_26 => (Keeps w_22 w_26 ((QAll Try.prog (do eqGuard .neq 28 (.tmp 30) (.tmp 31) x30_27 x31_25; binOp .neq 28 x30_27 x31_25) .bool fun (x32_28 : Bool) => ((x32_28 = true → K (((.slice none 0 0) : Value), (5 : Int)) w_26) ∧ (x32_28 = false → K ((v_19.2.1 : Value), (0 : Int)) w_26))))))))))) w_31) ((x14_9 : Value), (1 : Int)) w_8))))))))))))

theorem eq_spec_PartOfColouring (x0 : Value) (w : World) (K : (Value × Int) → World → Prop) :
    W Try.prog ty O_spec_PartOfColouring_1 (bodyOf Try.f41) (fnPost Try.prog Try.f41.results.toList (.two .any (.int .i64)) K) (frame0 [x0] 34) w = V_spec_PartOfColouring x0 w K := by
  kernel_rfl

theorem body_spec_PartOfColouring : Try.f41.body = some (bodyOf Try.f41) := by kernel_rfl
theorem name_spec_PartOfColouring : (Try.f41.name == "runtime.NumGoroutine") = false := by kernel_rfl

theorem walk_spec_PartOfColouring (x0 : Value) {w : World} {K : (Value × Int) → World → Prop} (h : V_spec_PartOfColouring x0 w K) : Fc Try.prog 41 #[x0] w (.two .any (.int .i64)) K :=
  fn_ok follows O_spec_PartOfColouring_1_ok Try.func41 name_spec_PartOfColouring body_spec_PartOfColouring Try.ntmps41 [x0] (Eq.mpr (eq_spec_PartOfColouring x0 w K) h)

-- uses S7Chg
theorem c_spec_PartOfColouring {c : Col} {w : World} {K : Value × Int → World → Prop} (hc : c.Ok)
    (hK : ∀ w' v, Below w.heap.size w w' → MyI w.heap.size w'.heap.size w' v (partCol c).1 → K (v, (partCol c).2) w') : Fc Try.prog F_spec_PartOfColouring #[c.val] w (.two .any (.int .i64)) K := by
  unfold partCol at hK
  refine walk_spec_PartOfColouring _ (col_box fun b w1 n1 hx => col_all hc hx (c_spec_l01Is hc fun w2 hb2 => ?_))
  have q2 := n1.below.trans (hb2.mono n1.below.size)
  have hx2 := hx.keep hb2
  refine ⟨fun hI => ?_, fun hI => ?_⟩
  · rw [if_neg (notd_t hI)] at hK
    exact hK w2 _ q2 (myI_nil _ _ _)
  have hI := notd_f hI
  rw [if_pos hI] at hK
  refine col_k hx2 ⟨fun hk => ?_, fun hk => ?_⟩
  · rw [if_neg (by have := dec_t hk; omega)] at hK
    exact hK w2 _ q2 (myI_nil _ _ _)
  rw [if_pos (by have := dec_f hk; omega)] at hK
  have n0 := hI.1; have n1' := hI.2.1; have k0 := hI.2.2.1; have k1 := hI.2.2.2.1
  refine nilI fun b v w3 hb3 hbel ho => ?_
  refine lp (fun s w' => 1 ≤ s.2 ∧ s.2 ≤ c.n ∧ Below w2.heap.size w2 w' ∧ ∃ b, w2.heap.size ≤ b ∧ OwnI w' b s.1 (row0 c (s.2 - 1).toNat)) (fun s _ => (c.n - s.2).toNat) ⟨by simp, by simpa using n0, hbel, b, by omega, ho⟩ ?_
  rintro ⟨v, j⟩ w4 N ⟨j0, j1, hb4, b4, hbb4, hO⟩ hN
  simp only at j0 j1 hO
  unfold B_spec_PartOfColouring_7
  have hx4 := hx2.keep hb4
  have hs4 := hb4.size
  have hlen := row0_len c (j - 1).toNat
  refine col_n hx4 ⟨fun hlt => ?_, fun hge => ?_⟩
  · have hlt := dec_t hlt
    simp only at hlt
    refine col_all hc hx4 (c_spec_l01At hc (by omega) (by omega) (by omega) (by omega) (by omega) fun w5 hb5 => ?_)
    have hs5 := hb5.size
    refine appI (hO.keep hb5) (by omega) fun v' w6 b6 o6 m6 hb6 => ?_
    simp only
    rw [wrap_small (by omega) (by omega)]
    refine hN _ _ ⟨by simp; omega, by simp; omega, hb4.trans ((hb5.mono hs4).trans (m6.below (by omega) (by simp; omega))), b6, by omega, ?_⟩ (by simp; omega)
    simp only
    rw [show (j + 1 - 1).toNat = (j - 1).toNat + 1 from by omega, row0_succ, show (((j - 1).toNat : Int) + 1) = j from by omega]
    exact o6
  · have hge := dec_f hge
    simp only at hge
    have : j = c.n := by omega
    subst this
    intro _ w5 hd
    have hb5 := hd.below w4.heap.size
    have q5 := q2.trans ((hb4.trans (hb5.mono hs4)).mono q2.size)
    have hx5 := hx4.keep hb5
    have hO5 := hO.keep hb5
    obtain ⟨l, hl⟩ : ∃ l, row0 c (c.n - 1).toNat = l := ⟨_, rfl⟩
    have hin := row0_in hc (c.n - 1).toNat
    rw [hl] at hlen hin hO5 hK
    have hnl : (l.length : Int) + 1 = c.n := by omega
    have hok : (colG (l.length + 1) c.k (partG l)).Ok := colG_ok (by omega) (by omega) ⟨by omega, by omega⟩ fun i j i0 i1 i2 => by
      have := hin.get (i := (j - i - 1).toNat) (by omega)
      unfold partG
      omega
    refine col_k hx5 (col_all hc hx5 (c_spec_l07Colouring ⟨by omega, by omega⟩ (own_slI hO5 (by omega)) (by omega) hin hok fun w6 hb6 => ⟨hb6, ?_⟩))
    have hs5 := hb5.size
    have q6 := q5.trans (hb6.mono q5.size)
    rw [hnl] at hok ⊢
    have kk := hK w6
    refine neC hok hc ⟨fun e => ?_, fun e => ?_⟩
    · have e : ¬ colG c.n c.k (partG l) = c := notd_t e
      rw [if_neg e] at kk
      exact kk _ q6 (myI_nil _ _ _)
    · have e : colG c.n c.k (partG l) = c := notd_f e
      rw [if_pos e] at kk
      exact kk v q6 (own_my (hO5.keep hb6) (by show l.length ≤ _; omega) (by have := q2.size; omega) (hO5.keep hb6).lt)

end Go.Proofs.Ytdkodhonaoecnaa
