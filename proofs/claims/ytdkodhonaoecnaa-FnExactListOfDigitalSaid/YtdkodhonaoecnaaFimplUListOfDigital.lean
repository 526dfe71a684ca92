/- The reading of impl_ListOfDigital, and its contract. No condition. -/
import Derived.Test.YtdkodhonaoecnaaTy
import Derived.Test.YtdkodhonaoecnaaS7LoD
import Derived.Test.YtdkodhonaoecnaaFimplUColouringUat
import Derived.Test.YtdkodhonaoecnaaFimplUColouringUcode
import Derived.Test.YtdkodhonaoecnaaFimplUalways
import Derived.Test.YtdkodhonaoecnaaFimplUdigitalOf
namespace Go.Proofs.Ytdkodhonaoecnaa
open Go Go.RowKit Eng Mem
set_option linter.unusedVariables false
set_option maxRecDepth 100000
def B_impl_ListOfDigital_10 (x1 : Value) (d5 : Int) (out6 : Value) (k7 : Int) (N : (Value × Int) → (Value × Int) → World → Prop) (D2 : (Value × Int × Value × Unit) → World → Prop) (w : World) : Prop :=
  (QAll Try.prog (Instr.fieldAt 28 x1 0) .any fun (x23_10 : Value) => (QSub Try.prog (Instr.loadAt 2 x23_10) w (.int .i64) fun (x24_11 : Int) => (((decide (k7 < x24_11)) = true → (Fc Try.prog 94 #[x1, (.int .i64 (0 : Int)), (.int .i64 k7)] w (.one (.int .i64)) fun (x30_13 : Int) w_12 => (Pr Try.prog (Instr.buildSlice 25 1 #[(0, (.int .i64 x30_13))]) w_12 (.one .any) fun (x31_15 : Value) w_14 => (Pr Try.prog (Builtin.append_ #[25, 25] 25 #[out6, x31_15]) w_14 (.one .any) fun (x32_17 : Value) w_16 => N ((x1 : Value), d5) ((x32_17 : Value), (IntKind.i64.wrap (k7 + (1 : Int)))) w_16)))) ∧ ((decide (k7 < x24_11)) = false → D2 ((x1 : Value), d5, (out6 : Value), ()) w))))

abbrev L_impl_ListOfDigital_10_e2 : List Slot := [.junk, .k .any, .junk, .junk, .junk, .k (.int .i64), .k .any, .junk, .junk, .junk, .junk, .junk, .junk, .junk, .junk, .junk, .junk, .junk, .junk, .junk, .junk, .junk, .junk, .junk, .junk, .junk, .junk, .junk, .junk, .junk, .junk, .junk, .junk, .junk, .junk, .junk, .junk, .junk, .junk, .junk, .junk]

abbrev L_impl_ListOfDigital_10_sp : List Slot := [.junk, .k .any, .junk, .junk, .junk, .k (.int .i64), .k .any, .k (.int .i64), .junk, .junk, .junk, .junk, .junk, .junk, .junk, .junk, .junk, .junk, .junk, .junk, .junk, .junk, .junk, .junk, .junk, .junk, .junk, .junk, .junk, .junk, .junk, .junk, .junk, .junk, .junk, .junk, .junk, .junk, .junk, .junk, .junk]
abbrev L_impl_ListOfDigital_10_ex : List (Nat × List Slot) := [(2, L_impl_ListOfDigital_10_e2)]
abbrev L_impl_ListOfDigital_10_rt : List Slot := [.junk, .junk, .junk, .junk, .junk, .junk, .junk, .junk, .junk, .junk, .junk, .junk, .junk, .junk, .junk, .junk, .junk, .junk, .junk, .junk, .junk, .junk, .junk, .junk, .junk, .junk, .junk, .junk, .junk, .junk, .junk, .junk, .junk, .junk, .junk, .junk, .junk, .junk, .junk, .junk, .junk]

def L_impl_ListOfDigital_10_b (Φ : Post) (u : (Value × Int)) (N : (Value × Int) → (Value × Int) → World → Prop) (s : (Value × Int)) (w : World) : Prop :=
  B_impl_ListOfDigital_10 u.1 u.2 s.1 s.2 N (fun v w => ∀ j : Nat → Value, Φ (.exit 2) (mkT j 0 L_impl_ListOfDigital_10_e2 v) w) w

theorem L_impl_ListOfDigital_10_eq (j : Nat → Value) (u : (Value × Int)) (s : (Value × Int)) (N : (Value × Int) → (Value × Int) → World → Prop) (D2 : (Value × Int × Value × Unit) → World → Prop) (R : (Unit) → World → Prop) (w : World) :
    W Try.prog ty (fun _ _ _ _ => False) (loopAt Try.f44 10) (loopPost L_impl_ListOfDigital_10_sp [(2, (⟨L_impl_ListOfDigital_10_e2, D2⟩ : Door))] ⟨L_impl_ListOfDigital_10_rt, R⟩ (fun v w => N ((fun v => (v.1, v.2.1)) v) ((fun v => (v.2.2.1, v.2.2.2.1)) v) w)) (mkT j 0 L_impl_ListOfDigital_10_sp ((fun u s => (u.1, u.2, s.1, s.2, ())) u s)) w =
    B_impl_ListOfDigital_10 u.1 u.2 s.1 s.2 N D2 w := by
  kernel_rfl

def O_impl_ListOfDigital_1 : Code → Post → List SV → World → Prop :=
  orc 10 (loopAt Try.f44 10) L_impl_ListOfDigital_10_sp (fun Φ fr w => LOOP (U := (Value × Int)) (S := (Value × Int)) ((fun v => (v.1, v.2.1)) (extT L_impl_ListOfDigital_10_sp fr)) (L_impl_ListOfDigital_10_b Φ ((fun v => (v.1, v.2.1)) (extT L_impl_ListOfDigital_10_sp fr))) ((fun v => (v.2.2.1, v.2.2.2.1)) (extT L_impl_ListOfDigital_10_sp fr)) w) (fun _ _ _ _ => False)

theorem O_impl_ListOfDigital_1_ok : Sound Try.prog O_impl_ListOfDigital_1 :=
  orc_ok (sound_none _) fun Φ fr w hs h => loop_ok (ty := ty) follows (sound_none _) L_impl_ListOfDigital_10_sp (fun v => (v.1, v.2.1)) (fun v => (v.2.2.1, v.2.2.2.1)) (fun u s => (u.1, u.2, s.1, s.2, ())) (fun _ => rfl) L_impl_ListOfDigital_10_ex L_impl_ListOfDigital_10_rt (body := L_impl_ListOfDigital_10_b Φ) (fun j u s w N hb => by
    have e := L_impl_ListOfDigital_10_eq j u s N (doorOf Φ (.exit 2) L_impl_ListOfDigital_10_e2).D (doorOf Φ .ret L_impl_ListOfDigital_10_rt).D w
    exact Eq.mpr e hb) hs h

def B_impl_ListOfDigital_5 (x1 : Value) (d5 : Int) (N : Value → Int → World → Prop) (D0 : (Unit) → World → Prop) (R : (Value × Int × Unit) → World → Prop) (w : World) : Prop :=
  (((decide (d5 ≤ (4 : Int))) = true → (∀ w_5, Drew w w_5 → (QAll Try.prog (Instr.fieldAt 28 x1 0) .any fun (x16_6 : Value) => (QSub Try.prog (Instr.loadAt 2 x16_6) w_5 (.int .i64) fun (x17_7 : Int) => (0 ≤ d5 ∧ (((x17_7 != (IntKind.i64.wrap ((1 : Int) * 2 ^ min (Int.toNat d5) 64))) = true → N (x1 : Value) (IntKind.i64.wrap (d5 + (1 : Int))) w_5) ∧ ((x17_7 != (IntKind.i64.wrap ((1 : Int) * 2 ^ min (Int.toNat d5) 64))) = false → (Pr Try.prog (Instr.buildSlice 25 0 #[]) w_5 (.one .any) fun (x21_9 : Value) w_8 => (At (loopAt Try.f44 10) (loopAt Try.f44 10) (LOOP (U := (Value × Int)) (S := (Value × Int)) ((x1 : Value), d5) (fun N_28 s_29 w_30 => B_impl_ListOfDigital_10 (x1 : Value) d5 s_29.1 s_29.2 N_28 (fun (v_18 : (Value × Int × Value × Unit)) w_19 => ∀ _j_20 : Nat → Value, (∀ w_21, Drew w_19 w_21 → (QAll Try.prog (Instr.fieldAt 28 v_18.1 1) .any fun (x34_22 : Value) => (QSub Try.prog (Instr.loadAt 2 x34_22) w_21 (.int .i64) fun (x35_23 : Int) => (QSub Try.prog (Instr.loadAt 28 v_18.1) w_21 .any fun (x38_24 : Value) => (Fc Try.prog 97 #[(.int .i64 v_18.2.1), (.int .i64 x35_23), v_18.2.2.1] w_21 (.one .any) fun (x37_26 : Value) w_25 => (Keeps w_21 w_25 ((QAll Try.prog (do eqGuard .eql 28 (.tmp 37) (.tmp 38) x37_26 x38_24; binOp .eql 28 x37_26 x38_24) .bool fun (x39_27 : Bool) => ((x39_27 = true → R ((v_18.2.2.1 : Value), (0 : Int), ()) w_25) ∧ (x39_27 = false → N (v_18.1 : Value) (IntKind.i64.wrap (v_18.2.1 + (1 : Int))) w_25))))))))))) w_30) ((x21_9 : Value), (1 : Int)) w_8)))))))))) ∧ ((decide (d5 ≤ (4 : Int))) = false → D0 () w))

abbrev L_impl_ListOfDigital_5_e0 : List Slot := [.junk, .junk, .junk, .junk, .junk, .junk, .junk, .junk, .junk, .junk, .junk, .junk, .junk, .junk, .junk, .junk, .junk, .junk, .junk, .junk, .junk, .junk, .junk, .junk, .junk, .junk, .junk, .junk, .junk, .junk, .junk, .junk, .junk, .junk, .junk, .junk, .junk, .junk, .junk, .junk, .junk]

abbrev L_impl_ListOfDigital_5_sp : List Slot := [.junk, .k .any, .junk, .junk, .junk, .k (.int .i64), .junk, .junk, .junk, .junk, .junk, .junk, .junk, .junk, .junk, .junk, .junk, .junk, .junk, .junk, .junk, .junk, .junk, .junk, .junk, .junk, .junk, .junk, .junk, .junk, .junk, .junk, .junk, .junk, .junk, .junk, .junk, .junk, .junk, .junk, .junk]
abbrev L_impl_ListOfDigital_5_ex : List (Nat × List Slot) := [(0, L_impl_ListOfDigital_5_e0)]
abbrev L_impl_ListOfDigital_5_rt : List Slot := [.junk, .junk, .k .any, .k (.int .i64), .junk, .junk, .junk, .junk, .junk, .junk, .junk, .junk, .junk, .junk, .junk, .junk, .junk, .junk, .junk, .junk, .junk, .junk, .junk, .junk, .junk, .junk, .junk, .junk, .junk, .junk, .junk, .junk, .junk, .junk, .junk, .junk, .junk, .junk, .junk, .junk, .junk]

def L_impl_ListOfDigital_5_b (Φ : Post) (u : Value) (N : Value → Int → World → Prop) (s : Int) (w : World) : Prop :=
  B_impl_ListOfDigital_5 u s N (fun v w => ∀ j : Nat → Value, Φ (.exit 0) (mkT j 0 L_impl_ListOfDigital_5_e0 v) w) (fun v w => ∀ j : Nat → Value, Φ .ret (mkT j 0 L_impl_ListOfDigital_5_rt v) w) w

theorem L_impl_ListOfDigital_5_eq (j : Nat → Value) (u : Value) (s : Int) (N : Value → Int → World → Prop) (D0 : (Unit) → World → Prop) (R : (Value × Int × Unit) → World → Prop) (w : World) :
    W Try.prog ty O_impl_ListOfDigital_1 (loopAt Try.f44 5) (loopPost L_impl_ListOfDigital_5_sp [(0, (⟨L_impl_ListOfDigital_5_e0, D0⟩ : Door))] ⟨L_impl_ListOfDigital_5_rt, R⟩ (fun v w => N ((fun v => v.1) v) ((fun v => v.2.1) v) w)) (mkT j 0 L_impl_ListOfDigital_5_sp ((fun u s => (u, s, ())) u s)) w =
    B_impl_ListOfDigital_5 u s N D0 R w := by
  kernel_rfl

def O_impl_ListOfDigital_2 : Code → Post → List SV → World → Prop :=
  orc 5 (loopAt Try.f44 5) L_impl_ListOfDigital_5_sp (fun Φ fr w => LOOP (U := Value) (S := Int) ((fun v => v.1) (extT L_impl_ListOfDigital_5_sp fr)) (L_impl_ListOfDigital_5_b Φ ((fun v => v.1) (extT L_impl_ListOfDigital_5_sp fr))) ((fun v => v.2.1) (extT L_impl_ListOfDigital_5_sp fr)) w) O_impl_ListOfDigital_1

theorem O_impl_ListOfDigital_2_ok : Sound Try.prog O_impl_ListOfDigital_2 :=
  orc_ok O_impl_ListOfDigital_1_ok fun Φ fr w hs h => loop_ok (ty := ty) follows O_impl_ListOfDigital_1_ok L_impl_ListOfDigital_5_sp (fun v => v.1) (fun v => v.2.1) (fun u s => (u, s, ())) (fun _ => rfl) L_impl_ListOfDigital_5_ex L_impl_ListOfDigital_5_rt (body := L_impl_ListOfDigital_5_b Φ) (fun j u s w N hb => by
    have e := L_impl_ListOfDigital_5_eq j u s N (doorOf Φ (.exit 0) L_impl_ListOfDigital_5_e0).D (doorOf Φ .ret L_impl_ListOfDigital_5_rt).D w
    exact Eq.mpr e hb) hs h

def V_impl_ListOfDigital (x0 : Value) (w : World) (K : (Value × Int) → World → Prop) : Prop :=
  (Pr Try.prog (Instr.box 28 x0) w (.one .any) fun (x1_2 : Value) w_1 => (Fc Try.prog 72 #[x1_2, (.func (.func 84) #[] #[])] w_1 (.one (.int .i64)) fun (x8_4 : Int) w_3 => (((x8_4 != (0 : Int)) = true → K (((.slice none 0 0) : Value), x8_4) w_3) ∧ ((x8_4 != (0 : Int)) = false → (At (loopAt Try.f44 5) (loopAt Try.f44 5) (LOOP (U := Value) (S := Int) (x1_2 : Value) (fun N_37 s_38 w_39 => B_impl_ListOfDigital_5 (x1_2 : Value) s_38 N_37 (fun (v_31 : (Unit)) w_32 => ∀ _j_33 : Nat → Value, K (((.slice none 0 0) : Value), (5 : Int)) w_32) (fun (v_34 : (Value × Int × Unit)) w_35 => ∀ _j_36 : Nat → Value, K ((v_34.1 : Value), v_34.2.1) w_35) w_39) (1 : Int) w_3))))))

theorem eq_impl_ListOfDigital (x0 : Value) (w : World) (K : (Value × Int) → World → Prop) :
    W Try.prog ty O_impl_ListOfDigital_2 (bodyOf Try.f44) (fnPost Try.prog Try.f44.results.toList (.two .any (.int .i64)) K) (frame0 [x0] 41) w = V_impl_ListOfDigital x0 w K := by
  kernel_rfl

theorem body_impl_ListOfDigital : Try.f44.body = some (bodyOf Try.f44) := by kernel_rfl
theorem name_impl_ListOfDigital : (Try.f44.name == "runtime.NumGoroutine") = false := by kernel_rfl

theorem walk_impl_ListOfDigital (x0 : Value) {w : World} {K : (Value × Int) → World → Prop} (h : V_impl_ListOfDigital x0 w K) : Fc Try.prog 44 #[x0] w (.two .any (.int .i64)) K :=
  fn_ok follows O_impl_ListOfDigital_2_ok Try.func44 name_impl_ListOfDigital body_impl_ListOfDigital Try.ntmps44 [x0] (Eq.mpr (eq_impl_ListOfDigital x0 w K) h)

-- uses S7LoD
theorem c_impl_ListOfDigital {c : Col} {w : World} {K : Value × Int → World → Prop} (hc : c.Ok)
    (hK : ∀ w' v, Below w.heap.size w w' → MyI w.heap.size w'.heap.size w' v (digCol c).1 → K (v, (digCol c).2) w') : Fc Try.prog F_impl_ListOfDigital #[c.val] w (.two .any (.int .i64)) K := by
  unfold digCol at hK
  refine walk_impl_ListOfDigital _ (col_box fun b w1 n1 hx => c_impl_Colouring_code true hc hx (fun _ w' K' hb' hk => cv rfl (c_impl_always (hk _ (Below.refl _ _)))) fun w2 hb2 => ?_)
  have q2 := n1.below.trans (hb2.mono n1.below.size)
  have hx2 := hx.keep hb2
  by_cases hI : c.Is
  case neg =>
    rw [if_neg hI] at hK ⊢
    exact ⟨fun _ => hK w2 _ q2 (myI_nil _ _ _), fun e => absurd (ne_f e) (by omega)⟩
  rw [if_pos hI] at hK ⊢
  have n0 := hI.1; have n1' := hI.2.1; have k0 := hI.2.2.1; have k1 := hI.2.2.2.1
  refine ⟨fun e => absurd rfl (ne_t e), fun _ => ?_⟩
  refine lp (fun dd w' => 1 ≤ dd ∧ dd ≤ 5 ∧ Below w2.heap.size w2 w' ∧ ∀ e : Nat, 1 ≤ e → (e : Int) < dd → (2 : Int) ^ e = c.n → ¬ colG c.n c.k (digG (row0 c (c.n - 1).toNat)) = c) (fun dd _ => (5 - dd).toNat) ⟨by omega, by omega, Below.refl _ _, fun e h1 h2 => by omega⟩ ?_
  rintro dd wl N ⟨dd0, dd1, hbl, hall⟩ hN
  unfold B_impl_ListOfDigital_5
  refine ⟨fun hle wa hda => ?_, fun hgt => ?_⟩
  case refine_2 =>
    have hgt := dec_f hgt
    intro _
    have q3 := q2.trans (hbl.mono q2.size)
    rw [if_neg (fun hh => by
      obtain ⟨e, e1, e4, he⟩ := pow2_get hh.1
      exact hall e e1 (by omega) he hh.2)] at hK
    exact hK wl _ q3 (myI_nil _ _ _)
  have hle := dec_t hle
  have hba := hbl.trans (hda.below w2.heap.size)
  have hxa := hx2.keep hba
  have qa := q2.trans (hba.mono q2.size)
  obtain ⟨d, hd⟩ : ∃ d : Nat, (d : Int) = dd := ⟨dd.toNat, by omega⟩
  subst hd
  have hp := pow2_of (d := d) (by omega) (by omega)
  refine col_n hxa ⟨by omega, ?_⟩
  rw [Int.toNat_natCast, Nat.min_eq_left (by omega), Int.one_mul, wrap_small (n := 2 ^ d) (by omega) (by omega)]
  have next : ∀ w', Below w2.heap.size w2 w' → ((2 : Int) ^ d = c.n → ¬ colG c.n c.k (digG (row0 c (c.n - 1).toNat)) = c) → N (ptr b 0) (IntKind.i64.wrap ((d : Int) + 1)) w' := fun w' hb' hno => by
    rw [wrap_small (by omega) (by omega)]
    refine hN _ _ ⟨by omega, by omega, hb', fun e h1 h2 he => ?_⟩ (by omega)
    by_cases hed : e = d
    · subst hed; exact hno he
    · exact hall e h1 (by omega) he
  refine ⟨fun hne => next _ hba fun he => absurd he.symm (ne_t hne), fun heq => ?_⟩
  have hd2 := (ne_f heq).symm
  refine nilI fun b' v w3 hb3 hbel ho => ?_
  refine lp (fun s w' => 1 ≤ s.2 ∧ s.2 ≤ c.n ∧ Below wa.heap.size wa w' ∧ ∃ b, wa.heap.size ≤ b ∧ OwnI w' b s.1 (row0 c (s.2 - 1).toNat)) (fun s _ => (c.n - s.2).toNat) ⟨by simp, by simpa using n0, hbel, b', by omega, ho⟩ ?_
  rintro ⟨v, j⟩ w4 N4 ⟨j0, j1, hb4, b4, hbb4, hO⟩ hN4
  simp only at j0 j1 hO
  unfold B_impl_ListOfDigital_10
  have hx4 := hxa.keep hb4
  have hs4 := hb4.size
  have hlen := row0_len c (j - 1).toNat
  refine col_n hx4 ⟨fun hlt => ?_, fun hge => ?_⟩
  · have hlt := dec_t hlt
    simp only at hlt
    refine c_impl_Colouring_at hc hx4 (by omega) (by omega) (by omega) (by omega) (by omega) fun w5 hb5 => ?_
    have hs5 := hb5.size
    refine appI (hO.keep hb5) (by omega) fun v' w6 b6 o6 m6 hb6 => ?_
    simp only
    rw [wrap_small (by omega) (by omega)]
    refine hN4 _ _ ⟨by simp; omega, by simp; omega, hb4.trans ((hb5.mono hs4).trans (m6.below (by omega) (by simp; omega))), b6, by omega, ?_⟩ (by simp; omega)
    simp only
    rw [show (j + 1 - 1).toNat = (j - 1).toNat + 1 from by omega, row0_succ, show (((j - 1).toNat : Int) + 1) = j from by omega]
    exact o6
  · have hge := dec_f hge
    simp only at hge
    have : j = c.n := by omega
    subst this
    intro _ w5 hdd
    have hb5 := hdd.below w4.heap.size
    have q5 := qa.trans ((hb4.trans (hb5.mono hs4)).mono qa.size)
    have hx5 := hx4.keep hb5
    have hO5 := hO.keep hb5
    obtain ⟨l, hl⟩ : ∃ l, row0 c (c.n - 1).toNat = l := ⟨_, rfl⟩
    have hin := row0_in hc (c.n - 1).toNat
    rw [hl] at hlen hin hO5 hK next
    have hs5 := hb5.size
    have hnl : (l.length : Int) = 2 ^ d - 1 := by omega
    have hg := dig_bd hnl hin
    have hok : (colG (2 ^ d) c.k (digG l)).Ok := colG_ok (by omega) (by omega) ⟨by omega, by omega⟩ hg
    refine col_k hx5 (col_all hc hx5 (c_impl_digitalOf (by omega) ⟨by omega, by omega⟩ (own_slI hO5 (by omega)) hnl hg hok fun w6 hb6 => ⟨hb6, ?_⟩))
    have q6 := q5.trans (hb6.mono q5.size)
    have kk := hK w6
    refine eqC hok hc ⟨fun e => ?_, fun e => ?_⟩
    · have e : colG (2 ^ d) c.k (digG l) = c := dec_t e
      rw [hd2] at e
      rw [if_pos ⟨by rw [← hd2]; exact hp.1, e⟩] at kk
      intro _
      exact kk v q6 (own_my (hO5.keep hb6) (by show l.length ≤ _; omega) (by have := qa.size; omega) (hO5.keep hb6).lt)
    · have e : ¬ colG (2 ^ d) c.k (digG l) = c := dec_f e
      rw [hd2] at e
      exact next w6 (hba.trans ((hb4.trans ((hb5.trans (hb6.mono hs5)).mono hs4)).mono hba.size)) fun _ => e

end Go.Proofs.Ytdkodhonaoecnaa
