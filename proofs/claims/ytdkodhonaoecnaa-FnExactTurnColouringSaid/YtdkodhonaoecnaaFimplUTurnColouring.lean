/- The reading of impl_TurnColouring, and its contract. No condition. -/
import Derived.Test.YtdkodhonaoecnaaTy
import Derived.Test.YtdkodhonaoecnaaS8Ren
import Derived.Test.YtdkodhonaoecnaaFimplUColouringUcode
import Derived.Test.YtdkodhonaoecnaaFimplUColouringUrenumbered
import Derived.Test.YtdkodhonaoecnaaFimplUTurnColouringU1
namespace Go.Proofs.Ytdkodhonaoecnaa
open Go Go.RowKit Eng Mem
set_option linter.unusedVariables false
set_option maxRecDepth 100000
def B_impl_TurnColouring_6 (x2 : Value) (t3 : Value) (x4 : Value) (x17 : Int) (p7 : Value) (x18 : Int) (N : (Value × Value × Value × Int) → (Value × Int) → World → Prop) (D0 : (Value × Value × Value × Unit) → World → Prop) (w : World) : Prop :=
  (((decide (x18 < x17)) = true → (QSub Try.prog (Instr.loadAt 2 t3) w (.int .i64) fun (x22_18 : Int) => (QAll Try.prog (Instr.fieldAt 28 x2 0) .any fun (x25_19 : Value) => (QSub Try.prog (Instr.loadAt 2 x25_19) w (.int .i64) fun (x26_20 : Int) => (x26_20 ≠ 0 ∧ (Pr Try.prog (Instr.buildSlice 25 1 #[(0, (.int .i64 (Int.tmod (IntKind.i64.wrap (x22_18 * x18)) x26_20)))]) w (.one .any) fun (x28_22 : Value) w_21 => (Pr Try.prog (Builtin.append_ #[25, 25] 25 #[p7, x28_22]) w_21 (.one .any) fun (x29_24 : Value) w_23 => N ((x2 : Value), (t3 : Value), (x4 : Value), x17) ((x29_24 : Value), (IntKind.i64.wrap (x18 + (1 : Int)))) w_23))))))) ∧ ((decide (x18 < x17)) = false → D0 ((x2 : Value), (x4 : Value), (p7 : Value), ()) w))

abbrev L_impl_TurnColouring_6_e0 : List Slot := [.junk, .junk, .k .any, .junk, .k .any, .junk, .junk, .k .any, .junk, .junk, .junk, .junk, .junk, .junk, .junk, .junk, .junk, .junk, .junk, .junk, .junk, .junk, .junk, .junk, .junk, .junk, .junk, .junk, .junk, .junk, .junk, .junk, .junk]

abbrev L_impl_TurnColouring_6_sp : List Slot := [.junk, .junk, .k .any, .k .any, .k .any, .junk, .junk, .k .any, .junk, .junk, .junk, .junk, .junk, .junk, .junk, .junk, .junk, .k (.int .i64), .k (.int .i64), .junk, .junk, .junk, .junk, .junk, .junk, .junk, .junk, .junk, .junk, .junk, .junk, .junk, .junk]
abbrev L_impl_TurnColouring_6_ex : List (Nat × List Slot) := [(0, L_impl_TurnColouring_6_e0)]
abbrev L_impl_TurnColouring_6_rt : List Slot := [.junk, .junk, .junk, .junk, .junk, .junk, .junk, .junk, .junk, .junk, .junk, .junk, .junk, .junk, .junk, .junk, .junk, .junk, .junk, .junk, .junk, .junk, .junk, .junk, .junk, .junk, .junk, .junk, .junk, .junk, .junk, .junk, .junk]

def L_impl_TurnColouring_6_b (Φ : Post) (u : (Value × Value × Value × Int)) (N : (Value × Value × Value × Int) → (Value × Int) → World → Prop) (s : (Value × Int)) (w : World) : Prop :=
  B_impl_TurnColouring_6 u.1 u.2.1 u.2.2.1 u.2.2.2 s.1 s.2 N (fun v w => ∀ j : Nat → Value, Φ (.exit 0) (mkT j 0 L_impl_TurnColouring_6_e0 v) w) w

theorem L_impl_TurnColouring_6_eq (j : Nat → Value) (u : (Value × Value × Value × Int)) (s : (Value × Int)) (N : (Value × Value × Value × Int) → (Value × Int) → World → Prop) (D0 : (Value × Value × Value × Unit) → World → Prop) (R : (Unit) → World → Prop) (w : World) :
    W Try.prog ty (fun _ _ _ _ => False) (loopAt Try.f40 6) (loopPost L_impl_TurnColouring_6_sp [(0, (⟨L_impl_TurnColouring_6_e0, D0⟩ : Door))] ⟨L_impl_TurnColouring_6_rt, R⟩ (fun v w => N ((fun v => (v.1, v.2.1, v.2.2.1, v.2.2.2.2.1)) v) ((fun v => (v.2.2.2.1, v.2.2.2.2.2.1)) v) w)) (mkT j 0 L_impl_TurnColouring_6_sp ((fun u s => (u.1, u.2.1, u.2.2.1, s.1, u.2.2.2, s.2, ())) u s)) w =
    B_impl_TurnColouring_6 u.1 u.2.1 u.2.2.1 u.2.2.2 s.1 s.2 N D0 w := by
  kernel_rfl

def O_impl_TurnColouring_1 : Code → Post → List SV → World → Prop :=
  orc 6 (loopAt Try.f40 6) L_impl_TurnColouring_6_sp (fun Φ fr w => LOOP (U := (Value × Value × Value × Int)) (S := (Value × Int)) ((fun v => (v.1, v.2.1, v.2.2.1, v.2.2.2.2.1)) (extT L_impl_TurnColouring_6_sp fr)) (L_impl_TurnColouring_6_b Φ ((fun v => (v.1, v.2.1, v.2.2.1, v.2.2.2.2.1)) (extT L_impl_TurnColouring_6_sp fr))) ((fun v => (v.2.2.2.1, v.2.2.2.2.2.1)) (extT L_impl_TurnColouring_6_sp fr)) w) (fun _ _ _ _ => False)

theorem O_impl_TurnColouring_1_ok : Sound Try.prog O_impl_TurnColouring_1 :=
  orc_ok (sound_none _) fun Φ fr w hs h => loop_ok (ty := ty) follows (sound_none _) L_impl_TurnColouring_6_sp (fun v => (v.1, v.2.1, v.2.2.1, v.2.2.2.2.1)) (fun v => (v.2.2.2.1, v.2.2.2.2.2.1)) (fun u s => (u.1, u.2.1, u.2.2.1, s.1, u.2.2.2, s.2, ())) (fun _ => rfl) L_impl_TurnColouring_6_ex L_impl_TurnColouring_6_rt (body := L_impl_TurnColouring_6_b Φ) (fun j u s w N hb => by
    have e := L_impl_TurnColouring_6_eq j u s N (doorOf Φ (.exit 0) L_impl_TurnColouring_6_e0).D (doorOf Φ .ret L_impl_TurnColouring_6_rt).D w
    exact Eq.mpr e hb) hs h

def V_impl_TurnColouring (x0 : Value) (t1 : Int) (w : World) (K : (Value × Int) → World → Prop) : Prop :=
  (Pr Try.prog (Instr.box 28 x0) w (.one .any) fun (x2_2 : Value) w_1 => (Pr Try.prog (Instr.box 2 (.int .i64 t1)) w_1 (.one .any) fun (t3_4 : Value) w_3 => (Pr Try.prog (Instr.alloc 28 true (.tuple #[])) w_3 (.one .any) fun (x4_6 : Value) w_5 => (Fc Try.prog 72 #[x2_2, (.func (.func 89) #[] #[x2_2, t3_4])] w_5 (.one (.int .i64)) fun (x10_8 : Int) w_7 => (((x10_8 != (0 : Int)) = true → (Pr Try.prog (Instr.build 28 #[]) w_7 (.one .any) fun (x13_10 : Value) w_9 => (PrU Try.prog (Instr.storeAt 28 x4_6 x13_10) w_9 fun w_11 => (QSub Try.prog (Instr.loadAt 28 x4_6) w_11 .any fun (r_13 : Value) => K ((r_13 : Value), x10_8) w_11)))) ∧ ((x10_8 != (0 : Int)) = false → (Pr Try.prog (Instr.buildSlice 25 0 #[]) w_7 (.one .any) fun (x15_15 : Value) w_14 => (QAll Try.prog (Instr.fieldAt 28 x2_2 0) .any fun (x16_16 : Value) => (QSub Try.prog (Instr.loadAt 2 x16_16) w_14 (.int .i64) fun (x17_17 : Int) => (At (loopAt Try.f40 6) (loopAt Try.f40 6) (LOOP (U := (Value × Value × Value × Int)) (S := (Value × Int)) ((x2_2 : Value), (t3_4 : Value), (x4_6 : Value), x17_17) (fun N_33 s_34 w_35 => B_impl_TurnColouring_6 (x2_2 : Value) (t3_4 : Value) (x4_6 : Value) x17_17 s_34.1 s_34.2 N_33 (fun (v_25 : (Value × Value × Value × Unit)) w_26 => ∀ _j_27 : Nat → Value, (Fc Try.prog 91 #[v_25.1, v_25.2.2.1] w_26 (.one .any) fun (x32_29 : Value) w_28 => (PrU Try.prog (Instr.storeAt 28 v_25.2.1 x32_29) w_28 fun w_30 => (QSub Try.prog (Instr.loadAt 28 v_25.2.1) w_30 .any fun (r_32 : Value) => K ((r_32 : Value), (0 : Int)) w_30)))) w_35) ((x15_15 : Value), (0 : Int)) w_14)))))))))))

theorem eq_impl_TurnColouring (x0 : Value) (t1 : Int) (w : World) (K : (Value × Int) → World → Prop) :
    W Try.prog ty O_impl_TurnColouring_1 (bodyOf Try.f40) (fnPost Try.prog Try.f40.results.toList (.two .any (.int .i64)) K) (frame0 [x0, (.int .i64 t1)] 33) w = V_impl_TurnColouring x0 t1 w K := by
  kernel_rfl

theorem body_impl_TurnColouring : Try.f40.body = some (bodyOf Try.f40) := by kernel_rfl
theorem name_impl_TurnColouring : (Try.f40.name == "runtime.NumGoroutine") = false := by kernel_rfl

theorem walk_impl_TurnColouring (x0 : Value) (t1 : Int) {w : World} {K : (Value × Int) → World → Prop} (h : V_impl_TurnColouring x0 t1 w K) : Fc Try.prog 40 #[x0, (.int .i64 t1)] w (.two .any (.int .i64)) K :=
  fn_ok follows O_impl_TurnColouring_1_ok Try.func40 name_impl_TurnColouring body_impl_TurnColouring Try.ntmps40 [x0, (.int .i64 t1)] (Eq.mpr (eq_impl_TurnColouring x0 t1 w K) h)

-- uses S8Ren
theorem c_impl_TurnColouring {c : Col} {t : Int} {w : World} {K : Value × Int → World → Prop} (hc : c.Ok) (_ : I64 t)
    (hK : ∀ w', Below w.heap.size w w' → (turnF c t).1.Ok → K ((turnF c t).1.val, (turnF c t).2) w') : Fc Try.prog F_impl_TurnColouring #[c.val, .int .i64 t] w (.two .any (.int .i64)) K := by
  have hK := fun w' hb => hK w' hb (turnF_ok hc t)
  unfold turnF at hK
  refine walk_impl_TurnColouring _ _ (col_box fun b1 w1 m1 hx => box [.int .i64 t] rfl fun b2 w2 m2 => c_alloc fun r w3 q3 hv => ?_)
  have q2 := m1.below.trans (m2.below.mono m1.below.size)
  have hx3 := (hx.keep m2.below).keep q3
  have ct : Cell w3 (ptr b2 0) (.int .i64 t) := (row_all (cs := [_]) m2.at_).keep q3
  have hs2 := q2.size; have hs3 := q3.size
  refine c_impl_Colouring_code (decide (TurnIs c.n t)) hc hx3 (fun hI w' K' hb' hk => cv rfl (c_impl_TurnColouring_1 (hx3.keep hb') (ct.keep hb') hI.1 hI.2.1 hk)) fun w4 q4 => ?_
  have hv4 := hv.keep q4
  have hs4 := q4.size
  have q23 : Below w2.heap.size w2 w4 := q3.trans (q4.mono hs3)
  by_cases hI : c.Is
  case neg =>
    rw [if_neg hI] at hK ⊢
    exact ⟨fun _ => c_none hv4 (by omega) fun w' q => hK w' (q2.trans ((q23.trans q).mono hs2)), fun h => absurd (ne_f h) (by omega)⟩
  rw [if_pos hI] at hK ⊢
  by_cases hT : TurnIs c.n t
  case neg =>
    rw [if_neg hT] at hK
    rw [if_neg (by simpa using hT)]
    exact ⟨fun _ => c_none hv4 (by omega) fun w' q => hK w' (q2.trans ((q23.trans q).mono hs2)), fun h => absurd (ne_f h) (by omega)⟩
  rw [if_pos hT] at hK
  rw [if_pos (by simpa using hT)]
  have n1 := hI.2.1; have n0 := hI.1; have t1 := hT.1
  have t2 : t ≤ 17 := by
    have := t1.2
    split at this <;> omega
  have hperm := turnL_perm n0 (by omega) hT.2
  refine ⟨fun h => absurd rfl (ne_t h), fun _ => nilI fun b0 v0 w5 e5 q5 o5 => col_n ((hx3.keep q4).keep q5) ?_⟩
  have hx5 := (hx3.keep q4).keep q5
  have hs5 := q5.size
  refine lp (fun s w' => Below w4.heap.size w4 w' ∧ ∃ (i b : Nat), s.2 = i ∧ i ≤ c.n.toNat ∧ w4.heap.size ≤ b ∧ OwnI w' b s.1 (turnL c.n t i)) (fun s _ => (17 - s.2).toNat) ⟨q5, 0, b0, rfl, by omega, by omega, o5⟩ ?_
  rintro ⟨v, i'⟩ w6 N ⟨q6, i, b, hi, hin, hb, ho⟩ hN
  simp only at hi ho
  subst hi
  unfold B_impl_TurnColouring_6
  dsimp only
  have hx6 := (hx3.keep q4).keep q6
  have ht := by
    have := Int.mul_le_mul (a := t) (b := (i : Int)) (c := 17) (d := 17)
    exact this
  refine ⟨fun hlt => ?_, fun hge => ?_⟩
  · have hlt := dec_t hlt
    have h289 : 0 ≤ t * i ∧ t * i ≤ 289 := ⟨Int.mul_nonneg (by omega) (by omega), ht t2 (by omega) (by omega) (by omega)⟩
    refine ld (k := .int .i64) yI ((ct.keep q4).keep q6) (col_n hx6 ⟨by omega, ?_⟩)
    rw [wrap_small (n := t * i) (by omega) (by omega), Int.tmod_eq_emod_of_nonneg h289.1, wrap_small (n := (i : Int) + 1) (by omega) (by omega)]
    refine appI ho (by simp [turnL]; omega) fun v' w7 b' o7 m7 hb7 => ?_
    have hs6 := q6.size
    refine hN _ _ ⟨q6.trans (m7.below (by omega) (by simp; omega)), i + 1, b', by simp only; omega, by omega, by omega, ?_⟩ (by simp only; omega)
    rw [turnL_succ]
    exact o7
  · have hge := dec_f hge
    intro _
    have : i = c.n.toNat := by omega
    subst this
    have hl := hperm.len
    refine c_impl_Colouring_renumbered hc hx6 (by omega) n1 (own_slI ho (by omega)) hperm fun w7 q7 => ?_
    have hs6 := q6.size; have hs7 := q7.size
    have q46 : Below w4.heap.size w4 w7 := q6.trans (q7.mono hs6)
    exact c_ret (renC_ok hc _) (hv4.keep q46) (by omega) fun w8 q8 => hK w8 (q2.trans (((q23.trans (q46.mono (by omega))).trans q8).mono hs2))

end Go.Proofs.Ytdkodhonaoecnaa
