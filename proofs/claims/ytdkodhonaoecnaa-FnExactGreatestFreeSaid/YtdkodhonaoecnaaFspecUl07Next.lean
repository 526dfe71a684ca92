/- The reading of spec_l07Next, and its contract. No condition. -/
import Derived.Test.YtdkodhonaoecnaaTy
import Derived.Test.YtdkodhonaoecnaaS8Next
import Derived.Test.YtdkodhonaoecnaaFspecUl01Own
import Derived.Test.YtdkodhonaoecnaaFspecUl07Fault
namespace Go.Proofs.Ytdkodhonaoecnaa
open Go Go.RowKit Eng Mem
set_option linter.unusedVariables false
set_option maxRecDepth 100000
def B_spec_l07Next_3 (k0 : Int) (part1 : Value) (kind2 : Int) (out7 : Value) (c8 : Int) (N : (Int × Value × Int) → (Value × Int) → World → Prop) (D0 : (Value × Unit) → World → Prop) (w : World) : Prop :=
  (((decide (c8 < k0)) = true → (Fc Try.prog 98 #[part1] w (.one .any) fun (x16_4 : Value) w_3 => (Pr Try.prog (Instr.buildSlice 25 1 #[(0, (.int .i64 c8))]) w_3 (.one .any) fun (x18_6 : Value) w_5 => (Pr Try.prog (Builtin.append_ #[25, 25] 25 #[x16_4, x18_6]) w_5 (.one .any) fun (x19_8 : Value) w_7 => (QAll Try.prog (Builtin.len_ #[25] 3 #[part1]) (.int .i64) fun (x22_9 : Int) => (Fc Try.prog 79 #[x19_8, (.int .i64 kind2), (.int .i64 (IntKind.i64.wrap (x22_9 + (1 : Int))))] w_7 (.one .any) fun (x24_11 : Value) w_10 => (QAll Try.prog (Builtin.len_ #[25] 3 #[x24_11]) (.int .i64) fun (x25_12 : Int) => (((x25_12 == (0 : Int)) = true → (Pr Try.prog (Instr.buildSlice 25 1 #[(0, (.int .i64 c8))]) w_10 (.one .any) fun (x29_14 : Value) w_13 => (Pr Try.prog (Builtin.append_ #[25, 25] 25 #[out7, x29_14]) w_13 (.one .any) fun (x30_16 : Value) w_15 => N (k0, (part1 : Value), kind2) ((x30_16 : Value), (IntKind.i64.wrap (c8 + (1 : Int)))) w_15))) ∧ ((x25_12 == (0 : Int)) = false → N (k0, (part1 : Value), kind2) ((out7 : Value), (IntKind.i64.wrap (c8 + (1 : Int)))) w_10))))))))) ∧ ((decide (c8 < k0)) = false → D0 ((out7 : Value), ()) w))

abbrev L_spec_l07Next_3_e0 : List Slot := [.junk, .junk, .junk, .junk, .junk, .junk, .junk, .k .any, .junk, .junk, .junk, .junk, .junk, .junk, .junk, .junk, .junk, .junk, .junk, .junk, .junk, .junk, .junk, .junk, .junk, .junk, .junk, .junk, .junk, .junk, .junk, .junk]

abbrev L_spec_l07Next_3_sp : List Slot := [.k (.int .i64), .k .any, .k (.int .i64), .junk, .junk, .junk, .junk, .k .any, .k (.int .i64), .junk, .junk, .junk, .junk, .junk, .junk, .junk, .junk, .junk, .junk, .junk, .junk, .junk, .junk, .junk, .junk, .junk, .junk, .junk, .junk, .junk, .junk, .junk]
abbrev L_spec_l07Next_3_ex : List (Nat × List Slot) := [(0, L_spec_l07Next_3_e0)]
abbrev L_spec_l07Next_3_rt : List Slot := [.junk, .junk, .junk, .junk, .junk, .junk, .junk, .junk, .junk, .junk, .junk, .junk, .junk, .junk, .junk, .junk, .junk, .junk, .junk, .junk, .junk, .junk, .junk, .junk, .junk, .junk, .junk, .junk, .junk, .junk, .junk, .junk]

def L_spec_l07Next_3_b (Φ : Post) (u : (Int × Value × Int)) (N : (Int × Value × Int) → (Value × Int) → World → Prop) (s : (Value × Int)) (w : World) : Prop :=
  B_spec_l07Next_3 u.1 u.2.1 u.2.2 s.1 s.2 N (fun v w => ∀ j : Nat → Value, Φ (.exit 0) (mkT j 0 L_spec_l07Next_3_e0 v) w) w

theorem L_spec_l07Next_3_eq (j : Nat → Value) (u : (Int × Value × Int)) (s : (Value × Int)) (N : (Int × Value × Int) → (Value × Int) → World → Prop) (D0 : (Value × Unit) → World → Prop) (R : (Unit) → World → Prop) (w : World) :
    W Try.prog ty (fun _ _ _ _ => False) (loopAt Try.f108 3) (loopPost L_spec_l07Next_3_sp [(0, (⟨L_spec_l07Next_3_e0, D0⟩ : Door))] ⟨L_spec_l07Next_3_rt, R⟩ (fun v w => N ((fun v => (v.1, v.2.1, v.2.2.1)) v) ((fun v => (v.2.2.2.1, v.2.2.2.2.1)) v) w)) (mkT j 0 L_spec_l07Next_3_sp ((fun u s => (u.1, u.2.1, u.2.2, s.1, s.2, ())) u s)) w =
    B_spec_l07Next_3 u.1 u.2.1 u.2.2 s.1 s.2 N D0 w := by
  kernel_rfl

def O_spec_l07Next_1 : Code → Post → List SV → World → Prop :=
  orc 3 (loopAt Try.f108 3) L_spec_l07Next_3_sp (fun Φ fr w => LOOP (U := (Int × Value × Int)) (S := (Value × Int)) ((fun v => (v.1, v.2.1, v.2.2.1)) (extT L_spec_l07Next_3_sp fr)) (L_spec_l07Next_3_b Φ ((fun v => (v.1, v.2.1, v.2.2.1)) (extT L_spec_l07Next_3_sp fr))) ((fun v => (v.2.2.2.1, v.2.2.2.2.1)) (extT L_spec_l07Next_3_sp fr)) w) (fun _ _ _ _ => False)

theorem O_spec_l07Next_1_ok : Sound Try.prog O_spec_l07Next_1 :=
  orc_ok (sound_none _) fun Φ fr w hs h => loop_ok (ty := ty) follows (sound_none _) L_spec_l07Next_3_sp (fun v => (v.1, v.2.1, v.2.2.1)) (fun v => (v.2.2.2.1, v.2.2.2.2.1)) (fun u s => (u.1, u.2.1, u.2.2, s.1, s.2, ())) (fun _ => rfl) L_spec_l07Next_3_ex L_spec_l07Next_3_rt (body := L_spec_l07Next_3_b Φ) (fun j u s w N hb => by
    have e := L_spec_l07Next_3_eq j u s N (doorOf Φ (.exit 0) L_spec_l07Next_3_e0).D (doorOf Φ .ret L_spec_l07Next_3_rt).D w
    exact Eq.mpr e hb) hs h

def V_spec_l07Next (k0 : Int) (part1 : Value) (kind2 : Int) (w : World) (K : Value → World → Prop) : Prop :=
  (Pr Try.prog (Instr.buildSlice 25 0 #[]) w (.one .any) fun (x9_2 : Value) w_1 => (At (loopAt Try.f108 3) (loopAt Try.f108 3) (LOOP (U := (Int × Value × Int)) (S := (Value × Int)) (k0, (part1 : Value), kind2) (fun N_20 s_21 w_22 => B_spec_l07Next_3 k0 (part1 : Value) kind2 s_21.1 s_21.2 N_20 (fun (v_17 : (Value × Unit)) w_18 => ∀ _j_19 : Nat → Value, K (v_17.1 : Value) w_18) w_22) ((x9_2 : Value), (0 : Int)) w_1)))

theorem eq_spec_l07Next (k0 : Int) (part1 : Value) (kind2 : Int) (w : World) (K : Value → World → Prop) :
    W Try.prog ty O_spec_l07Next_1 (bodyOf Try.f108) (fnPost Try.prog Try.f108.results.toList (.one .any) K) (frame0 [(.int .i64 k0), part1, (.int .i64 kind2)] 32) w = V_spec_l07Next k0 part1 kind2 w K := by
  kernel_rfl

theorem body_spec_l07Next : Try.f108.body = some (bodyOf Try.f108) := by kernel_rfl
theorem name_spec_l07Next : (Try.f108.name == "runtime.NumGoroutine") = false := by kernel_rfl

theorem walk_spec_l07Next (k0 : Int) (part1 : Value) (kind2 : Int) {w : World} {K : Value → World → Prop} (h : V_spec_l07Next k0 part1 kind2 w K) : Fc Try.prog 108 #[(.int .i64 k0), part1, (.int .i64 kind2)] w (.one .any) K :=
  fn_ok follows O_spec_l07Next_1_ok Try.func108 name_spec_l07Next body_spec_l07Next Try.ntmps108 [(.int .i64 k0), part1, (.int .i64 kind2)] (Eq.mpr (eq_spec_l07Next k0 part1 kind2 w K) h)

-- uses S8Next
theorem c_spec_l07Next {a : Value} {l : List Int} {k kind : Int} {w : World} {K : Value → World → Prop} (h : SlI w a l) (hl : l.length ≤ 40) (k0 : 0 ≤ k) (k1 : k ≤ 3)
    (hK : ∀ w' v b, w.heap.size ≤ b → Below w.heap.size w w' → OwnI w' b v (nextL l kind k.toNat) → K v w') : Fc Try.prog F_spec_l07Next #[.int .i64 k, a, .int .i64 kind] w (.one .any) K := by
  refine walk_spec_l07Next _ _ _ (nilI fun b v w1 hb hbel ho => ?_)
  refine lp (fun s w' => 0 ≤ s.2 ∧ s.2 ≤ k ∧ Below w.heap.size w w' ∧ ∃ b, w.heap.size ≤ b ∧ OwnI w' b s.1 (nextL l kind s.2.toNat)) (fun s _ => (k - s.2).toNat) ⟨by simp, by simpa using k0, hbel, b, by omega, ho⟩ ?_
  rintro ⟨v, c⟩ w2 N ⟨c0, c1, hb2, b2, hb2', hO⟩ hN
  simp only at c0 c1 hO
  unfold B_spec_l07Next_3
  refine ⟨fun hlt => ?_, fun hge => ?_⟩
  · have hlt := dec_t hlt
    simp only at hlt
    have hs2 := hb2.size
    have hnl := nextL_len l kind c.toNat
    refine c_spec_l01Own (h.keep hb2) (by omega) fun w3 x b3 hb3 q3 o3 => appI o3 (by omega) fun x' w4 b4 o4 m4 hb4 => ?_
    have hs3 := q3.size
    have q4 : Below w2.heap.size w2 w4 := q3.trans (m4.below (by omega) (by simp; omega))
    have hb24 := hb2.trans (q4.mono hs2)
    refine lenI (h.keep hb24) ?_
    rw [wrap_small (by omega) (by omega)]
    have hL : (l ++ [c]).length = l.length + 1 := by simp
    refine c_spec_l07Fault (own_slI o4 (by rw [hL]; omega)) (by rw [hL]; omega) (by omega) (by rw [hL]; omega) fun w5 y q5 hy => lenI hy.sl ?_
    have q25 := q4.trans (q5.mono q4.size)
    have hb25 := hb2.trans (q25.mono hs2)
    have hO5 := hO.keep q25
    have hc : (c.toNat : Int) = c := by omega
    have hsucc := nextL_succ l kind c.toNat
    rw [hc] at hsucc
    have hfa : faR (l ++ [c]) kind ((l.length : Int) + 1 - 1).toNat ((l ++ [c]).length + 1 - ((l.length : Int) + 1)).toNat = fz3 (l ++ [c]) kind (l.length + 1) l.length := by
      rw [hL, show ((l.length : Int) + 1 - 1).toNat = l.length from by omega, show (((l.length + 1 : Nat) : Int) + 1 - ((l.length : Int) + 1)).toNat = 0 + 1 from by omega, faR_succ]
      simp [faR]
    rw [hfa]
    by_cases he : fz (l ++ [c]) kind (l.length + 1) l.length = []
    · rw [if_pos he] at hsucc
      have e0 : (fz3 (l ++ [c]) kind (l.length + 1) l.length).headD [] = [] := by unfold fz3; rw [he]; rfl
      rw [e0]
      refine ⟨fun _ => appI hO5 (by omega) fun v' w6 b6 o6 m6 hb6 => ?_, fun hn => absurd rfl (eq_f hn)⟩
      simp only
      rw [wrap_small (by omega) (by omega)]
      have hs5 := hb25.size; have hs55 := q25.size
      refine hN _ _ ⟨by simp; omega, by simp; omega, hb25.trans (m6.below (by omega) (by simp; omega)), b6, by omega, ?_⟩ (by simp; omega)
      simp only
      rw [show (c + 1).toNat = c.toNat + 1 from by omega, hsucc]
      exact o6
    · rw [if_neg he, List.append_nil] at hsucc
      have e1 : ((fz3 (l ++ [c]) kind (l.length + 1) l.length).headD []).length = 3 := by
        unfold fz3
        cases hf : fz (l ++ [c]) kind (l.length + 1) l.length with
        | nil => exact absurd hf he
        | cons p r => rfl
      rw [e1]
      refine ⟨fun hn => absurd (eq_t hn) (by omega), fun _ => ?_⟩
      simp only
      rw [wrap_small (by omega) (by omega)]
      refine hN _ _ ⟨by simp; omega, by simp; omega, hb25, b2, hb2', ?_⟩ (by simp; omega)
      simp only
      rw [show (c + 1).toNat = c.toNat + 1 from by omega, hsucc]
      exact hO5
  · have hge := dec_f hge
    simp only at hge
    intro _
    have : c = k := by omega
    subst this
    exact hK w2 v b2 hb2' hb2 hO

end Go.Proofs.Ytdkodhonaoecnaa
