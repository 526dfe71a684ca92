/- The reading of impl_PartOfColouring, and its contract. No condition. -/
import Derived.Test.YtdkodhonaoecnaaTy
import Derived.Test.YtdkodhonaoecnaaS7Chg
import Derived.Test.YtdkodhonaoecnaaFimplUColouringUat
import Derived.Test.YtdkodhonaoecnaaFimplUColouringUcode
import Derived.Test.YtdkodhonaoecnaaFimplUPartOfColouringU1
import Derived.Test.YtdkodhonaoecnaaFimplUcolouringOf
namespace Go.Proofs.Ytdkodhonaoecnaa
open Go Go.RowKit Eng Mem
set_option linter.unusedVariables false
set_option maxRecDepth 100000
def B_impl_PartOfColouring_6 (x1 : Value) (out5 : Value) (j6 : Int) (N : Value → (Value × Int) → World → Prop) (D0 : (Value × Value × Unit) → World → Prop) (w : World) : Prop :=
  (QAll Try.prog (Instr.fieldAt 28 x1 0) .any fun (x14_7 : Value) => (QSub Try.prog (Instr.loadAt 2 x14_7) w (.int .i64) fun (x15_8 : Int) => (((decide (j6 < x15_8)) = true → (Fc Try.prog 94 #[x1, (.int .i64 (0 : Int)), (.int .i64 j6)] w (.one (.int .i64)) fun (x21_10 : Int) w_9 => (Pr Try.prog (Instr.buildSlice 25 1 #[(0, (.int .i64 x21_10))]) w_9 (.one .any) fun (x22_12 : Value) w_11 => (Pr Try.prog (Builtin.append_ #[25, 25] 25 #[out5, x22_12]) w_11 (.one .any) fun (x23_14 : Value) w_13 => N (x1 : Value) ((x23_14 : Value), (IntKind.i64.wrap (j6 + (1 : Int)))) w_13)))) ∧ ((decide (j6 < x15_8)) = false → D0 ((x1 : Value), (out5 : Value), ()) w))))

abbrev L_impl_PartOfColouring_6_e0 : List Slot := [.junk, .k .any, .junk, .junk, .junk, .k .any, .junk, .junk, .junk, .junk, .junk, .junk, .junk, .junk, .junk, .junk, .junk, .junk, .junk, .junk, .junk, .junk, .junk, .junk, .junk, .junk, .junk, .junk, .junk, .junk, .junk]

abbrev L_impl_PartOfColouring_6_sp : List Slot := [.junk, .k .any, .junk, .junk, .junk, .k .any, .k (.int .i64), .junk, .junk, .junk, .junk, .junk, .junk, .junk, .junk, .junk, .junk, .junk, .junk, .junk, .junk, .junk, .junk, .junk, .junk, .junk, .junk, .junk, .junk, .junk, .junk]
abbrev L_impl_PartOfColouring_6_ex : List (Nat × List Slot) := [(0, L_impl_PartOfColouring_6_e0)]
abbrev L_impl_PartOfColouring_6_rt : List Slot := [.junk, .junk, .junk, .junk, .junk, .junk, .junk, .junk, .junk, .junk, .junk, .junk, .junk, .junk, .junk, .junk, .junk, .junk, .junk, .junk, .junk, .junk, .junk, .junk, .junk, .junk, .junk, .junk, .junk, .junk, .junk]

def L_impl_PartOfColouring_6_b (Φ : Post) (u : Value) (N : Value → (Value × Int) → World → Prop) (s : (Value × Int)) (w : World) : Prop :=
  B_impl_PartOfColouring_6 u s.1 s.2 N (fun v w => ∀ j : Nat → Value, Φ (.exit 0) (mkT j 0 L_impl_PartOfColouring_6_e0 v) w) w

theorem L_impl_PartOfColouring_6_eq (j : Nat → Value) (u : Value) (s : (Value × Int)) (N : Value → (Value × Int) → World → Prop) (D0 : (Value × Value × Unit) → World → Prop) (R : (Unit) → World → Prop) (w : World) :
    W Try.prog ty (fun _ _ _ _ => False) (loopAt Try.f42 6) (loopPost L_impl_PartOfColouring_6_sp [(0, (⟨L_impl_PartOfColouring_6_e0, D0⟩ : Door))] ⟨L_impl_PartOfColouring_6_rt, R⟩ (fun v w => N ((fun v => v.1) v) ((fun v => (v.2.1, v.2.2.1)) v) w)) (mkT j 0 L_impl_PartOfColouring_6_sp ((fun u s => (u, s.1, s.2, ())) u s)) w =
    B_impl_PartOfColouring_6 u s.1 s.2 N D0 w := by
  kernel_rfl

def O_impl_PartOfColouring_1 : Code → Post → List SV → World → Prop :=
  orc 6 (loopAt Try.f42 6) L_impl_PartOfColouring_6_sp (fun Φ fr w => LOOP (U := Value) (S := (Value × Int)) ((fun v => v.1) (extT L_impl_PartOfColouring_6_sp fr)) (L_impl_PartOfColouring_6_b Φ ((fun v => v.1) (extT L_impl_PartOfColouring_6_sp fr))) ((fun v => (v.2.1, v.2.2.1)) (extT L_impl_PartOfColouring_6_sp fr)) w) (fun _ _ _ _ => False)

theorem O_impl_PartOfColouring_1_ok : Sound Try.prog O_impl_PartOfColouring_1 :=
  orc_ok (sound_none _) fun Φ fr w hs h => loop_ok (ty := ty) follows (sound_none _) L_impl_PartOfColouring_6_sp (fun v => v.1) (fun v => (v.2.1, v.2.2.1)) (fun u s => (u, s.1, s.2, ())) (fun _ => rfl) L_impl_PartOfColouring_6_ex L_impl_PartOfColouring_6_rt (body := L_impl_PartOfColouring_6_b Φ) (fun j u s w N hb => by
    have e := L_impl_PartOfColouring_6_eq j u s N (doorOf Φ (.exit 0) L_impl_PartOfColouring_6_e0).D (doorOf Φ .ret L_impl_PartOfColouring_6_rt).D w
    exact Eq.mpr e hb) hs h

def V_impl_PartOfColouring (x0 : Value) (w : World) (K : (Value × Int) → World → Prop) : Prop :=
  (Pr Try.prog (Instr.box 28 x0) w (.one .any) fun (x1_2 : Value) w_1 => (Fc Try.prog 72 #[x1_2, (.func (.func 93) #[] #[x1_2])] w_1 (.one (.int .i64)) fun (x8_4 : Int) w_3 => (((x8_4 != (0 : Int)) = true → K (((.slice none 0 0) : Value), x8_4) w_3) ∧ ((x8_4 != (0 : Int)) = false → (Pr Try.prog (Instr.buildSlice 25 0 #[]) w_3 (.one .any) fun (x12_6 : Value) w_5 => (At (loopAt Try.f42 6) (loopAt Try.f42 6) (LOOP (U := Value) (S := (Value × Int)) (x1_2 : Value) (fun N_25 s_26 w_27 => B_impl_PartOfColouring_6 (x1_2 : Value) s_26.1 s_26.2 N_25 (fun (v_15 : (Value × Value × Unit)) w_16 => ∀ _j_17 : Nat → Value, (∀ w_18, Drew w_16 w_18 → (QAll Try.prog (Instr.fieldAt 28 v_15.1 1) .any fun (x24_19 : Value) => (QSub Try.prog (Instr.loadAt 2 x24_19) w_18 (.int .i64) fun (x25_20 : Int) => (QSub Try.prog (Instr.loadAt 28 v_15.1) w_18 .any fun (x28_21 : Value) => (Fc Try.prog 95 #[(.int .i64 x25_20), v_15.2.1] w_18 (.one .any) fun (x27_23 : Value) w_22 => (Keeps w_18 w_22 ((QAll Try.prog (do eqGuard .neq 28 (.tmp 27) (.tmp 28) x27_23 x28_21; binOp .neq 28 x27_23 x28_21) .bool fun (x29_24 : Bool) => ((x29_24 = true → K (((.slice none 0 0) : Value), (5 : Int)) w_22) ∧ (x29_24 = false → K ((v_15.2.1 : Value), (0 : Int)) w_22))))))))))) w_27) ((x12_6 : Value), (1 : Int)) w_5)))))))

theorem eq_impl_PartOfColouring (x0 : Value) (w : World) (K : (Value × Int) → World → Prop) :
    W Try.prog ty O_impl_PartOfColouring_1 (bodyOf Try.f42) (fnPost Try.prog Try.f42.results.toList (.two .any (.int .i64)) K) (frame0 [x0] 31) w = V_impl_PartOfColouring x0 w K := by
  kernel_rfl

theorem body_impl_PartOfColouring : Try.f42.body = some (bodyOf Try.f42) := by kernel_rfl
theorem name_impl_PartOfColouring : (Try.f42.name == "runtime.NumGoroutine") = false := by kernel_rfl

theorem walk_impl_PartOfColouring (x0 : Value) {w : World} {K : (Value × Int) → World → Prop} (h : V_impl_PartOfColouring x0 w K) : Fc Try.prog 42 #[x0] w (.two .any (.int .i64)) K :=
  fn_ok follows O_impl_PartOfColouring_1_ok Try.func42 name_impl_PartOfColouring body_impl_PartOfColouring Try.ntmps42 [x0] (Eq.mpr (eq_impl_PartOfColouring x0 w K) h)

-- uses S7Chg
theorem c_impl_PartOfColouring {c : Col} {w : World} {K : Value × Int → World → Prop} (hc : c.Ok)
    (hK : ∀ w' v, Below w.heap.size w w' → MyI w.heap.size w'.heap.size w' v (partCol c).1 → K (v, (partCol c).2) w') : Fc Try.prog F_impl_PartOfColouring #[c.val] w (.two .any (.int .i64)) K := by
  unfold partCol at hK
  refine walk_impl_PartOfColouring _ (col_box fun b w1 n1 hx => c_impl_Colouring_code (decide (c.k ≤ 3)) hc hx (fun _ w' K' hb' hk => cv rfl (c_impl_PartOfColouring_1 (hx.keep hb') (hk _ (Below.refl _ _)))) fun w2 hb2 => ?_)
  have q2 := n1.below.trans (hb2.mono n1.below.size)
  have hx2 := hx.keep hb2
  by_cases hI : c.Is
  case neg =>
    rw [if_neg hI] at hK ⊢
    exact ⟨fun _ => hK w2 _ q2 (myI_nil _ _ _), fun e => absurd (ne_f e) (by omega)⟩
  rw [if_pos hI] at hK ⊢
  by_cases hk : c.k ≤ 3
  case neg =>
    rw [if_neg hk] at hK
    rw [if_neg (by simpa using hk)]
    exact ⟨fun _ => hK w2 _ q2 (myI_nil _ _ _), fun e => absurd (ne_f e) (by omega)⟩
  rw [if_pos hk] at hK
  rw [if_pos (by simpa using hk)]
  refine ⟨fun e => absurd rfl (ne_t e), fun _ => ?_⟩
  have n0 := hI.1; have n1' := hI.2.1; have k0 := hI.2.2.1; have k1 := hI.2.2.2.1
  refine nilI fun b v w3 hb3 hbel ho => ?_
  refine lp (fun s w' => 1 ≤ s.2 ∧ s.2 ≤ c.n ∧ Below w2.heap.size w2 w' ∧ ∃ b, w2.heap.size ≤ b ∧ OwnI w' b s.1 (row0 c (s.2 - 1).toNat)) (fun s _ => (c.n - s.2).toNat) ⟨by simp, by simpa using n0, hbel, b, by omega, ho⟩ ?_
  rintro ⟨v, j⟩ w4 N ⟨j0, j1, hb4, b4, hbb4, hO⟩ hN
  simp only at j0 j1 hO
  unfold B_impl_PartOfColouring_6
  have hx4 := hx2.keep hb4
  have hs4 := hb4.size
  have hlen := row0_len c (j - 1).toNat
  refine col_n hx4 ⟨fun hlt => ?_, fun hge => ?_⟩
  · have hlt := dec_t hlt
    simp only at hlt
    refine c_impl_Colouring_at hc hx4 (by omega) (by omega) (by omega) (by omega) (by omega) fun w5 hb5 => ?_
    have hs5 := hb5.size
    refine appI (hO.keep hb5) (by omega) fun v' w6 b6 o6 m6 hb6 => ?_
    simp only
    rw [wrap_small (by omega) (by omega)]
    refine hN _ _ ⟨by simp; omega, by simp; omega, hb4.trans ((hb5.mono hs4).trans (m6.below (by omega) (by simp; omega))), b6, by omega, ?_⟩ (by simp; omega)
    simp only
    rw [show (j + 1 - 1).toNat = (j - 1).toNat + 1 from by omega, row0_succ, show (((j - 1).toNat : Int) + 1) = j from by omega]
    exact o6
  · have hge := dec_f hge
    simp only at hge
    have : j = c.n := by omega
    subst this
    intro _ w5 hd
    have hb5 := hd.below w4.heap.size
    have q5 := q2.trans ((hb4.trans (hb5.mono hs4)).mono q2.size)
    have hx5 := hx4.keep hb5
    have hO5 := hO.keep hb5
    obtain ⟨l, hl⟩ : ∃ l, row0 c (c.n - 1).toNat = l := ⟨_, rfl⟩
    have hin := row0_in hc (c.n - 1).toNat
    rw [hl] at hlen hin hO5 hK
    have hnl : (l.length : Int) + 1 = c.n := by omega
    have hok : (colG (l.length + 1) c.k (partG l)).Ok := colG_ok (by omega) (by omega) ⟨by omega, by omega⟩ fun i j i0 i1 i2 => by
      have := hin.get (i := (j - i - 1).toNat) (by omega)
      unfold partG
      omega
    refine col_k hx5 (col_all hc hx5 (c_impl_colouringOf ⟨by omega, by omega⟩ (own_slI hO5 (by omega)) (by omega) hin hok fun w6 hb6 => ⟨hb6, ?_⟩))
    have hs5 := hb5.size
    have q6 := q5.trans (hb6.mono q5.size)
    rw [hnl] at hok ⊢
    have kk := hK w6
    refine neC hok hc ⟨fun e => ?_, fun e => ?_⟩
    · have e : ¬ colG c.n c.k (partG l) = c := notd_t e
      rw [if_neg e] at kk
      exact kk _ q6 (myI_nil _ _ _)
    · have e : colG c.n c.k (partG l) = c := notd_f e
      rw [if_pos e] at kk
      exact kk v q6 (own_my (hO5.keep hb6) (by show l.length ≤ _; omega) (by have := q2.size; omega) (hO5.keep hb6).lt)

end Go.Proofs.Ytdkodhonaoecnaa
