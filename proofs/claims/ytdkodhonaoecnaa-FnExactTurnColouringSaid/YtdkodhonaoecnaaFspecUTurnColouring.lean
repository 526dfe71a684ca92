/- The reading of spec_TurnColouring, and its contract. No condition. -/
import Derived.Test.YtdkodhonaoecnaaTy
import Derived.Test.YtdkodhonaoecnaaS8Ren
import Derived.Test.YtdkodhonaoecnaaFspecUl01In
import Derived.Test.YtdkodhonaoecnaaFspecUl01Is
import Derived.Test.YtdkodhonaoecnaaFspecUl01Renamed
import Derived.Test.YtdkodhonaoecnaaFspecUl03Gcd
namespace Go.Proofs.Ytdkodhonaoecnaa
open Go Go.RowKit Eng Mem
set_option linter.unusedVariables false
set_option maxRecDepth 100000
def B_spec_TurnColouring_7 (t1 : Int) (x2 : Value) (x4 : Value) (p6 : Value) (i7 : Int) (N : (Int × Value × Value) → (Value × Int) → World → Prop) (D0 : (Value × Value × Value × Unit) → World → Prop) (w : World) : Prop :=
  (QAll Try.prog (Instr.fieldAt 28 x2 0) .any fun (x29_34 : Value) => (QSub Try.prog (Instr.loadAt 2 x29_34) w (.int .i64) fun (x30_35 : Int) => (((decide (i7 < x30_35)) = true → (QAll Try.prog (Instr.fieldAt 28 x2 0) .any fun (x38_36 : Value) => (QSub Try.prog (Instr.loadAt 2 x38_36) w (.int .i64) fun (x39_37 : Int) => (x39_37 ≠ 0 ∧ (Pr Try.prog (Instr.buildSlice 25 1 #[(0, (.int .i64 (Int.tmod (IntKind.i64.wrap (t1 * i7)) x39_37)))]) w (.one .any) fun (x41_39 : Value) w_38 => (Pr Try.prog (Builtin.append_ #[25, 25] 25 #[p6, x41_39]) w_38 (.one .any) fun (x42_41 : Value) w_40 => N (t1, (x2 : Value), (x4 : Value)) ((x42_41 : Value), (IntKind.i64.wrap (i7 + (1 : Int)))) w_40)))))) ∧ ((decide (i7 < x30_35)) = false → D0 ((x2 : Value), (x4 : Value), (p6 : Value), ()) w))))

abbrev L_spec_TurnColouring_7_e0 : List Slot := [.junk, .junk, .k .any, .junk, .k .any, .junk, .k .any, .junk, .junk, .junk, .junk, .junk, .junk, .junk, .junk, .junk, .junk, .junk, .junk, .junk, .junk, .junk, .junk, .junk, .junk, .junk, .junk, .junk, .junk, .junk, .junk, .junk, .junk, .junk, .junk, .junk, .junk, .junk, .junk, .junk, .junk, .junk, .junk, .junk, .junk, .junk]

abbrev L_spec_TurnColouring_7_sp : List Slot := [.junk, .k (.int .i64), .k .any, .junk, .k .any, .junk, .k .any, .k (.int .i64), .junk, .junk, .junk, .junk, .junk, .junk, .junk, .junk, .junk, .junk, .junk, .junk, .junk, .junk, .junk, .junk, .junk, .junk, .junk, .junk, .junk, .junk, .junk, .junk, .junk, .junk, .junk, .junk, .junk, .junk, .junk, .junk, .junk, .junk, .junk, .junk, .junk, .junk]
abbrev L_spec_TurnColouring_7_ex : List (Nat × List Slot) := [(0, L_spec_TurnColouring_7_e0)]
abbrev L_spec_TurnColouring_7_rt : List Slot := [.junk, .junk, .junk, .junk, .junk, .junk, .junk, .junk, .junk, .junk, .junk, .junk, .junk, .junk, .junk, .junk, .junk, .junk, .junk, .junk, .junk, .junk, .junk, .junk, .junk, .junk, .junk, .junk, .junk, .junk, .junk, .junk, .junk, .junk, .junk, .junk, .junk, .junk, .junk, .junk, .junk, .junk, .junk, .junk, .junk, .junk]

def L_spec_TurnColouring_7_b (Φ : Post) (u : (Int × Value × Value)) (N : (Int × Value × Value) → (Value × Int) → World → Prop) (s : (Value × Int)) (w : World) : Prop :=
  B_spec_TurnColouring_7 u.1 u.2.1 u.2.2 s.1 s.2 N (fun v w => ∀ j : Nat → Value, Φ (.exit 0) (mkT j 0 L_spec_TurnColouring_7_e0 v) w) w

theorem L_spec_TurnColouring_7_eq (j : Nat → Value) (u : (Int × Value × Value)) (s : (Value × Int)) (N : (Int × Value × Value) → (Value × Int) → World → Prop) (D0 : (Value × Value × Value × Unit) → World → Prop) (R : (Unit) → World → Prop) (w : World) :
    W Try.prog ty (fun _ _ _ _ => False) (loopAt Try.f39 7) (loopPost L_spec_TurnColouring_7_sp [(0, (⟨L_spec_TurnColouring_7_e0, D0⟩ : Door))] ⟨L_spec_TurnColouring_7_rt, R⟩ (fun v w => N ((fun v => (v.1, v.2.1, v.2.2.1)) v) ((fun v => (v.2.2.2.1, v.2.2.2.2.1)) v) w)) (mkT j 0 L_spec_TurnColouring_7_sp ((fun u s => (u.1, u.2.1, u.2.2, s.1, s.2, ())) u s)) w =
    B_spec_TurnColouring_7 u.1 u.2.1 u.2.2 s.1 s.2 N D0 w := by
  kernel_rfl

def O_spec_TurnColouring_1 : Code → Post → List SV → World → Prop :=
  orc 7 (loopAt Try.f39 7) L_spec_TurnColouring_7_sp (fun Φ fr w => LOOP (U := (Int × Value × Value)) (S := (Value × Int)) ((fun v => (v.1, v.2.1, v.2.2.1)) (extT L_spec_TurnColouring_7_sp fr)) (L_spec_TurnColouring_7_b Φ ((fun v => (v.1, v.2.1, v.2.2.1)) (extT L_spec_TurnColouring_7_sp fr))) ((fun v => (v.2.2.2.1, v.2.2.2.2.1)) (extT L_spec_TurnColouring_7_sp fr)) w) (fun _ _ _ _ => False)

theorem O_spec_TurnColouring_1_ok : Sound Try.prog O_spec_TurnColouring_1 :=
  orc_ok (sound_none _) fun Φ fr w hs h => loop_ok (ty := ty) follows (sound_none _) L_spec_TurnColouring_7_sp (fun v => (v.1, v.2.1, v.2.2.1)) (fun v => (v.2.2.2.1, v.2.2.2.2.1)) (fun u s => (u.1, u.2.1, u.2.2, s.1, s.2, ())) (fun _ => rfl) L_spec_TurnColouring_7_ex L_spec_TurnColouring_7_rt (body := L_spec_TurnColouring_7_b Φ) (fun j u s w N hb => by
    have e := L_spec_TurnColouring_7_eq j u s N (doorOf Φ (.exit 0) L_spec_TurnColouring_7_e0).D (doorOf Φ .ret L_spec_TurnColouring_7_rt).D w
    exact Eq.mpr e hb) hs h

def V_spec_TurnColouring (x0 : Value) (t1 : Int) (w : World) (K : (Value × Int) → World → Prop) : Prop :=
  (Pr Try.prog (Instr.box 28 x0) w (.one .any) fun (x2_2 : Value) w_1 => (Pr Try.prog (Instr.alloc 28 true (.tuple #[])) w_1 (.one .any) fun (x4_4 : Value) w_3 => (QSub Try.prog (Instr.loadAt 28 x2_2) w_3 .any fun (x8_5 : Value) => (Fc Try.prog 64 #[x8_5] w_3 (.one .bool) fun (x9_7 : Bool) w_6 => (((!x9_7) = true → (Pr Try.prog (Instr.build 28 #[]) w_6 (.one .any) fun (x11_9 : Value) w_8 => (PrU Try.prog (Instr.storeAt 28 x4_4 x11_9) w_8 fun w_10 => (QSub Try.prog (Instr.loadAt 28 x4_4) w_10 .any fun (r_12 : Value) => K ((r_12 : Value), (1 : Int)) w_10)))) ∧ ((!x9_7) = false → (QAll Try.prog (Instr.fieldAt 28 x2_2 0) .any fun (x13_13 : Value) => (QSub Try.prog (Instr.loadAt 2 x13_13) w_6 (.int .i64) fun (x14_14 : Int) => (QAll Try.prog (Builtin.max_ #[2, 2] 2 #[(.int .i64 (IntKind.i64.wrap (x14_14 - (1 : Int)))), (.int .i64 (1 : Int))]) (.int .i64) fun (x16_15 : Int) => (Fc Try.prog 45 #[(.int .i64 t1), (.int .i64 (1 : Int)), (.int .i64 x16_15)] w_6 (.one .bool) fun (x17_17 : Bool) w_16 => (((!x17_17) = true → (Pr Try.prog (Instr.build 28 #[]) w_16 (.one .any) fun (x26_19 : Value) w_18 => (PrU Try.prog (Instr.storeAt 28 x4_4 x26_19) w_18 fun w_20 => (QSub Try.prog (Instr.loadAt 28 x4_4) w_20 .any fun (r_22 : Value) => K ((r_22 : Value), (2 : Int)) w_20)))) ∧ ((!x17_17) = false → (QAll Try.prog (Instr.fieldAt 28 x2_2 0) .any fun (x21_23 : Value) => (QSub Try.prog (Instr.loadAt 2 x21_23) w_16 (.int .i64) fun (x22_24 : Int) => (Fc Try.prog 87 #[(.int .i64 t1), (.int .i64 x22_24)] w_16 (.one (.int .i64)) fun (x23_26 : Int) w_25 => (((x23_26 != (1 : Int)) = true → (Pr Try.prog (Instr.build 28 #[]) w_25 (.one .any) fun (x26_28 : Value) w_27 => (PrU Try.prog (Instr.storeAt 28 x4_4 x26_28) w_27 fun w_29 => (QSub Try.prog (Instr.loadAt 28 x4_4) w_29 .any fun (r_31 : Value) => K ((r_31 : Value), (2 : Int)) w_29)))) ∧ ((x23_26 != (1 : Int)) = false → (Pr Try.prog (Instr.buildSlice 25 0 #[]) w_25 (.one .any) fun (x27_33 : Value) w_32 => (At (loopAt Try.f39 7) (loopAt Try.f39 7) (LOOP (U := (Int × Value × Value)) (S := (Value × Int)) (t1, (x2_2 : Value), (x4_4 : Value)) (fun N_51 s_52 w_53 => B_spec_TurnColouring_7 t1 (x2_2 : Value) (x4_4 : Value) s_52.1 s_52.2 N_51 (fun (v_42 : (Value × Value × Value × Unit)) w_43 => ∀ _j_44 : Nat → Value, (QSub Try.prog (Instr.loadAt 28 v_42.1) w_43 .any fun (x43_45 : Value) => (Fc Try.prog 88 #[x43_45, v_42.2.2.1] w_43 (.one .any) fun (x45_47 : Value) w_46 => (PrU Try.prog (Instr.storeAt 28 v_42.2.1 x45_47) w_46 fun w_48 => (QSub Try.prog (Instr.loadAt 28 v_42.2.1) w_48 .any fun (r_50 : Value) => K ((r_50 : Value), (0 : Int)) w_48))))) w_53) ((x27_33 : Value), (0 : Int)) w_32))))))))))))))))))))

theorem eq_spec_TurnColouring (x0 : Value) (t1 : Int) (w : World) (K : (Value × Int) → World → Prop) :
    W Try.prog ty O_spec_TurnColouring_1 (bodyOf Try.f39) (fnPost Try.prog Try.f39.results.toList (.two .any (.int .i64)) K) (frame0 [x0, (.int .i64 t1)] 46) w = V_spec_TurnColouring x0 t1 w K := by
  kernel_rfl

theorem body_spec_TurnColouring : Try.f39.body = some (bodyOf Try.f39) := by kernel_rfl
theorem name_spec_TurnColouring : (Try.f39.name == "runtime.NumGoroutine") = false := by kernel_rfl

theorem walk_spec_TurnColouring (x0 : Value) (t1 : Int) {w : World} {K : (Value × Int) → World → Prop} (h : V_spec_TurnColouring x0 t1 w K) : Fc Try.prog 39 #[x0, (.int .i64 t1)] w (.two .any (.int .i64)) K :=
  fn_ok follows O_spec_TurnColouring_1_ok Try.func39 name_spec_TurnColouring body_spec_TurnColouring Try.ntmps39 [x0, (.int .i64 t1)] (Eq.mpr (eq_spec_TurnColouring x0 t1 w K) h)

-- uses S8Ren
theorem c_spec_TurnColouring {c : Col} {t : Int} {w : World} {K : Value × Int → World → Prop} (hc : c.Ok) (_ : I64 t)
    (hK : ∀ w', Below w.heap.size w w' → (turnF c t).1.Ok → K ((turnF c t).1.val, (turnF c t).2) w') : Fc Try.prog F_spec_TurnColouring #[c.val, .int .i64 t] w (.two .any (.int .i64)) K := by
  have hK := fun w' hb => hK w' hb (turnF_ok hc t)
  unfold turnF at hK
  refine walk_spec_TurnColouring _ _ (col_box fun b1 w1 m1 hx => c_alloc fun r w3 q3 hv => col_all hc (hx.keep q3) (c_spec_l01Is hc fun w4 q4 => ?_))
  have q1 := m1.below
  have hx4 := (hx.keep q3).keep q4
  have hs1 := q1.size; have hs3 := q3.size; have hs4 := q4.size
  have hv4 := hv.keep q4
  have q14 : Below w1.heap.size w1 w4 := q3.trans (q4.mono hs3)
  refine ⟨fun hn => ?_, fun hy => ?_⟩
  · rw [if_neg (notd_t hn)] at hK
    exact c_none hv4 (by omega) fun w' q => hK w' (q1.trans ((q14.trans q).mono hs1))
  have hI := notd_f hy
  rw [if_pos hI] at hK
  have n1 := hI.2.1; have n0 := hI.1
  refine col_n hx4 ?_
  rw [wrap_small (n := c.n - 1) (by omega) (by omega)]
  refine mx (c_spec_l01In _ _ _ ⟨fun hn => ?_, fun hy => col_n hx4 ?_⟩)
  · rw [if_neg (fun hT => notd_t hn hT.1)] at hK
    exact c_none hv4 (by omega) fun w' q => hK w' (q1.trans ((q14.trans q).mono hs1))
  have t1 := notd_f hy
  have t2 : t ≤ 17 := by
    have := t1.2
    split at this <;> omega
  have hg := fun K' => c_spec_l03Gcd (a := t.toNat) (b := c.n.toNat) (w := w4) (K := K')
  rw [show ((t.toNat : Nat) : Int) = t from by omega, show ((c.n.toNat : Nat) : Int) = c.n from by omega] at hg
  refine hg _ (by omega) (by omega) fun w5 q5 => ?_
  have hs5 := q5.size
  have hv5 := hv4.keep q5
  have hx5 := hx4.keep q5
  have q15 : Below w1.heap.size w1 w5 := q14.trans (q5.mono (by omega))
  refine ⟨fun hn => ?_, fun hy => ?_⟩
  · rw [if_neg (fun hT => ne_t hn (by have := hT.2; omega))] at hK
    exact c_none hv5 (by omega) fun w' q => hK w' (q1.trans ((q15.trans q).mono hs1))
  have hT : TurnIs c.n t := ⟨t1, by have := ne_f hy; omega⟩
  rw [if_pos hT] at hK
  have hperm := turnL_perm n0 (by omega) hT.2
  refine nilI fun b0 v0 w6 e6 q6 o6 => ?_
  refine lp (fun s w' => Below w5.heap.size w5 w' ∧ ∃ (i b : Nat), s.2 = i ∧ i ≤ c.n.toNat ∧ w5.heap.size ≤ b ∧ OwnI w' b s.1 (turnL c.n t i)) (fun s _ => (17 - s.2).toNat) ⟨q6, 0, b0, rfl, by omega, by omega, o6⟩ ?_
  rintro ⟨v, i'⟩ w7 N ⟨q7, i, b, hi, hin, hb, ho⟩ hN
  simp only at hi ho
  subst hi
  unfold B_spec_TurnColouring_7
  dsimp only
  have hx7 := hx5.keep q7
  have ht := by
    have := Int.mul_le_mul (a := t) (b := (i : Int)) (c := 17) (d := 17)
    exact this
  refine col_n hx7 ⟨fun hlt => ?_, fun hge => ?_⟩
  · have hlt := dec_t hlt
    have h289 : 0 ≤ t * i ∧ t * i ≤ 289 := ⟨Int.mul_nonneg (by omega) (by omega), ht t2 (by omega) (by omega) (by omega)⟩
    refine col_n hx7 ⟨by omega, ?_⟩
    rw [wrap_small (n := t * i) (by omega) (by omega), Int.tmod_eq_emod_of_nonneg h289.1, wrap_small (n := (i : Int) + 1) (by omega) (by omega)]
    refine appI ho (by simp [turnL]; omega) fun v' w8 b' o8 m8 hb8 => ?_
    have hs7 := q7.size
    refine hN _ _ ⟨q7.trans (m8.below (by omega) (by simp; omega)), i + 1, b', by simp only; omega, by omega, by omega, ?_⟩ (by simp only; omega)
    rw [turnL_succ]
    exact o8
  · have hge := dec_f hge
    intro _
    have : i = c.n.toNat := by omega
    subst this
    have hl := hperm.len
    refine col_all hc hx7 (c_spec_l01Renamed hc n0 n1 (own_slI ho (by omega)) hperm fun w8 q8 => ?_)
    have hs7 := q7.size; have hs8 := q8.size
    have q58 : Below w5.heap.size w5 w8 := q7.trans (q8.mono hs7)
    exact c_ret (renC_ok hc _) (hv5.keep q58) (by omega) fun w9 q9 => hK w9 (q1.trans (((q15.trans (q58.mono (by omega))).trans q9).mono hs1))

end Go.Proofs.Ytdkodhonaoecnaa
