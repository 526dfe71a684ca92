/- The reading of spec_CountFaults, and its contract. No condition. -/
import Derived.Test.YtdnofmicjgppnaaTy
import Derived.Test.YtdnofmicjgppnaaS8Cnt
import Derived.Test.YtdnofmicjgppnaaFspecUl07At
import Derived.Test.YtdnofmicjgppnaaFspecUl07Code
namespace Go.Proofs.Ytdnofmicjgppnaa
open Go Go.RowKit Eng Mem
set_option linter.unusedVariables false
set_option maxRecDepth 100000
def B_spec_CountFaults_9 (part1 : Value) (kind2 : Int) (z10 : Int) (count9 : Int) (y11 : Int) (N : (Value × Int × Int) → (Int × Int) → World → Prop) (D2 : (Value × Int × Int × Int × Unit) → World → Prop) (w : World) : Prop :=
  (((decide (y11 < z10)) = true → (Fc Try.prog 69 #[part1, (.int .i64 kind2), (.int .i64 y11), (.int .i64 z10)] w (.one (.int .i64)) fun (x34_5 : Int) w_4 => (((decide (x34_5 > (0 : Int))) = true → N ((part1 : Value), kind2, z10) ((IntKind.i64.wrap (count9 + (1 : Int))), (IntKind.i64.wrap (y11 + (1 : Int)))) w_4) ∧ ((decide (x34_5 > (0 : Int))) = false → N ((part1 : Value), kind2, z10) (count9, (IntKind.i64.wrap (y11 + (1 : Int)))) w_4)))) ∧ ((decide (y11 < z10)) = false → D2 ((part1 : Value), kind2, count9, z10, ()) w))

abbrev L_spec_CountFaults_9_e2 : List Slot := [.junk, .k .any, .k (.int .i64), .junk, .junk, .junk, .junk, .junk, .junk, .k (.int .i64), .k (.int .i64), .junk, .junk, .junk, .junk, .junk, .junk, .junk, .junk, .junk, .junk, .junk, .junk, .junk, .junk, .junk, .junk, .junk, .junk, .junk, .junk, .junk, .junk, .junk, .junk, .junk, .junk, .junk, .junk]

abbrev L_spec_CountFaults_9_sp : List Slot := [.junk, .k .any, .k (.int .i64), .junk, .junk, .junk, .junk, .junk, .junk, .k (.int .i64), .k (.int .i64), .k (.int .i64), .junk, .junk, .junk, .junk, .junk, .junk, .junk, .junk, .junk, .junk, .junk, .junk, .junk, .junk, .junk, .junk, .junk, .junk, .junk, .junk, .junk, .junk, .junk, .junk, .junk, .junk, .junk]
abbrev L_spec_CountFaults_9_ex : List (Nat × List Slot) := [(2, L_spec_CountFaults_9_e2)]
abbrev L_spec_CountFaults_9_rt : List Slot := [.junk, .junk, .junk, .junk, .junk, .junk, .junk, .junk, .junk, .junk, .junk, .junk, .junk, .junk, .junk, .junk, .junk, .junk, .junk, .junk, .junk, .junk, .junk, .junk, .junk, .junk, .junk, .junk, .junk, .junk, .junk, .junk, .junk, .junk, .junk, .junk, .junk, .junk, .junk]

def L_spec_CountFaults_9_b (Φ : Post) (u : (Value × Int × Int)) (N : (Value × Int × Int) → (Int × Int) → World → Prop) (s : (Int × Int)) (w : World) : Prop :=
  B_spec_CountFaults_9 u.1 u.2.1 u.2.2 s.1 s.2 N (fun v w => ∀ j : Nat → Value, Φ (.exit 2) (mkT j 0 L_spec_CountFaults_9_e2 v) w) w

theorem L_spec_CountFaults_9_eq (j : Nat → Value) (u : (Value × Int × Int)) (s : (Int × Int)) (N : (Value × Int × Int) → (Int × Int) → World → Prop) (D2 : (Value × Int × Int × Int × Unit) → World → Prop) (R : (Unit) → World → Prop) (w : World) :
    W Try.prog ty (fun _ _ _ _ => False) (loopAt Try.f34 9) (loopPost L_spec_CountFaults_9_sp [(2, (⟨L_spec_CountFaults_9_e2, D2⟩ : Door))] ⟨L_spec_CountFaults_9_rt, R⟩ (fun v w => N ((fun v => (v.1, v.2.1, v.2.2.2.1)) v) ((fun v => (v.2.2.1, v.2.2.2.2.1)) v) w)) (mkT j 0 L_spec_CountFaults_9_sp ((fun u s => (u.1, u.2.1, s.1, u.2.2, s.2, ())) u s)) w =
    B_spec_CountFaults_9 u.1 u.2.1 u.2.2 s.1 s.2 N D2 w := by
  kernel_rfl

def O_spec_CountFaults_1 : Code → Post → List SV → World → Prop :=
  orc 9 (loopAt Try.f34 9) L_spec_CountFaults_9_sp (fun Φ fr w => LOOP (U := (Value × Int × Int)) (S := (Int × Int)) ((fun v => (v.1, v.2.1, v.2.2.2.1)) (extT L_spec_CountFaults_9_sp fr)) (L_spec_CountFaults_9_b Φ ((fun v => (v.1, v.2.1, v.2.2.2.1)) (extT L_spec_CountFaults_9_sp fr))) ((fun v => (v.2.2.1, v.2.2.2.2.1)) (extT L_spec_CountFaults_9_sp fr)) w) (fun _ _ _ _ => False)

theorem O_spec_CountFaults_1_ok : Sound Try.prog O_spec_CountFaults_1 :=
  orc_ok (sound_none _) fun Φ fr w hs h => loop_ok (ty := ty) follows (sound_none _) L_spec_CountFaults_9_sp (fun v => (v.1, v.2.1, v.2.2.2.1)) (fun v => (v.2.2.1, v.2.2.2.2.1)) (fun u s => (u.1, u.2.1, s.1, u.2.2, s.2, ())) (fun _ => rfl) L_spec_CountFaults_9_ex L_spec_CountFaults_9_rt (body := L_spec_CountFaults_9_b Φ) (fun j u s w N hb => by
    have e := L_spec_CountFaults_9_eq j u s N (doorOf Φ (.exit 2) L_spec_CountFaults_9_e2).D (doorOf Φ .ret L_spec_CountFaults_9_rt).D w
    exact Eq.mpr e hb) hs h

def B_spec_CountFaults_6 (part1 : Value) (kind2 : Int) (count9 : Int) (z10 : Int) (N : (Value × Int) → (Int × Int) → World → Prop) (D0 : (Int × Unit) → World → Prop) (w : World) : Prop :=
  (QAll Try.prog (Builtin.len_ #[22] 3 #[part1]) (.int .i64) fun (x21_3 : Int) => (((decide (z10 ≤ x21_3)) = true → (At (loopAt Try.f34 9) (loopAt Try.f34 9) (LOOP (U := (Value × Int × Int)) (S := (Int × Int)) ((part1 : Value), kind2, z10) (fun N_9 s_10 w_11 => B_spec_CountFaults_9 (part1 : Value) kind2 z10 s_10.1 s_10.2 N_9 (fun (v_6 : (Value × Int × Int × Int × Unit)) w_7 => ∀ _j_8 : Nat → Value, N ((v_6.1 : Value), v_6.2.1) (v_6.2.2.1, (IntKind.i64.wrap (v_6.2.2.2.1 + (1 : Int)))) w_7) w_11) (count9, (1 : Int)) w))) ∧ ((decide (z10 ≤ x21_3)) = false → D0 (count9, ()) w)))

abbrev L_spec_CountFaults_6_e0 : List Slot := [.junk, .junk, .junk, .junk, .junk, .junk, .junk, .junk, .junk, .k (.int .i64), .junk, .junk, .junk, .junk, .junk, .junk, .junk, .junk, .junk, .junk, .junk, .junk, .junk, .junk, .junk, .junk, .junk, .junk, .junk, .junk, .junk, .junk, .junk, .junk, .junk, .junk, .junk, .junk, .junk]

abbrev L_spec_CountFaults_6_sp : List Slot := [.junk, .k .any, .k (.int .i64), .junk, .junk, .junk, .junk, .junk, .junk, .k (.int .i64), .k (.int .i64), .junk, .junk, .junk, .junk, .junk, .junk, .junk, .junk, .junk, .junk, .junk, .junk, .junk, .junk, .junk, .junk, .junk, .junk, .junk, .junk, .junk, .junk, .junk, .junk, .junk, .junk, .junk, .junk]
abbrev L_spec_CountFaults_6_ex : List (Nat × List Slot) := [(0, L_spec_CountFaults_6_e0)]
abbrev L_spec_CountFaults_6_rt : List Slot := [.junk, .junk, .junk, .junk, .junk, .junk, .junk, .junk, .junk, .junk, .junk, .junk, .junk, .junk, .junk, .junk, .junk, .junk, .junk, .junk, .junk, .junk, .junk, .junk, .junk, .junk, .junk, .junk, .junk, .junk, .junk, .junk, .junk, .junk, .junk, .junk, .junk, .junk, .junk]

def L_spec_CountFaults_6_b (Φ : Post) (u : (Value × Int)) (N : (Value × Int) → (Int × Int) → World → Prop) (s : (Int × Int)) (w : World) : Prop :=
  B_spec_CountFaults_6 u.1 u.2 s.1 s.2 N (fun v w => ∀ j : Nat → Value, Φ (.exit 0) (mkT j 0 L_spec_CountFaults_6_e0 v) w) w

theorem L_spec_CountFaults_6_eq (j : Nat → Value) (u : (Value × Int)) (s : (Int × Int)) (N : (Value × Int) → (Int × Int) → World → Prop) (D0 : (Int × Unit) → World → Prop) (R : (Unit) → World → Prop) (w : World) :
    W Try.prog ty O_spec_CountFaults_1 (loopAt Try.f34 6) (loopPost L_spec_CountFaults_6_sp [(0, (⟨L_spec_CountFaults_6_e0, D0⟩ : Door))] ⟨L_spec_CountFaults_6_rt, R⟩ (fun v w => N ((fun v => (v.1, v.2.1)) v) ((fun v => (v.2.2.1, v.2.2.2.1)) v) w)) (mkT j 0 L_spec_CountFaults_6_sp ((fun u s => (u.1, u.2, s.1, s.2, ())) u s)) w =
    B_spec_CountFaults_6 u.1 u.2 s.1 s.2 N D0 w := by
  kernel_rfl

def O_spec_CountFaults_2 : Code → Post → List SV → World → Prop :=
  orc 6 (loopAt Try.f34 6) L_spec_CountFaults_6_sp (fun Φ fr w => LOOP (U := (Value × Int)) (S := (Int × Int)) ((fun v => (v.1, v.2.1)) (extT L_spec_CountFaults_6_sp fr)) (L_spec_CountFaults_6_b Φ ((fun v => (v.1, v.2.1)) (extT L_spec_CountFaults_6_sp fr))) ((fun v => (v.2.2.1, v.2.2.2.1)) (extT L_spec_CountFaults_6_sp fr)) w) O_spec_CountFaults_1

theorem O_spec_CountFaults_2_ok : Sound Try.prog O_spec_CountFaults_2 :=
  orc_ok O_spec_CountFaults_1_ok fun Φ fr w hs h => loop_ok (ty := ty) follows O_spec_CountFaults_1_ok L_spec_CountFaults_6_sp (fun v => (v.1, v.2.1)) (fun v => (v.2.2.1, v.2.2.2.1)) (fun u s => (u.1, u.2, s.1, s.2, ())) (fun _ => rfl) L_spec_CountFaults_6_ex L_spec_CountFaults_6_rt (body := L_spec_CountFaults_6_b Φ) (fun j u s w N hb => by
    have e := L_spec_CountFaults_6_eq j u s N (doorOf Φ (.exit 0) L_spec_CountFaults_6_e0).D (doorOf Φ .ret L_spec_CountFaults_6_rt).D w
    exact Eq.mpr e hb) hs h

def V_spec_CountFaults (k0 : Int) (part1 : Value) (kind2 : Int) (w : World) (K : (Int × Int) → World → Prop) : Prop :=
  (Fc Try.prog 42 #[(.int .i64 k0), part1, (.int .i64 kind2)] w (.one (.int .i64)) fun (x15_2 : Int) w_1 => (((x15_2 != (0 : Int)) = true → K ((0 : Int), x15_2) w_1) ∧ ((x15_2 != (0 : Int)) = false → (At (loopAt Try.f34 6) (loopAt Try.f34 6) (LOOP (U := (Value × Int)) (S := (Int × Int)) ((part1 : Value), kind2) (fun N_15 s_16 w_17 => B_spec_CountFaults_6 (part1 : Value) kind2 s_16.1 s_16.2 N_15 (fun (v_12 : (Int × Unit)) w_13 => ∀ _j_14 : Nat → Value, K (v_12.1, (0 : Int)) w_13) w_17) ((0 : Int), (1 : Int)) w_1)))))

theorem eq_spec_CountFaults (k0 : Int) (part1 : Value) (kind2 : Int) (w : World) (K : (Int × Int) → World → Prop) :
    W Try.prog ty O_spec_CountFaults_2 (bodyOf Try.f34) (fnPost Try.prog Try.f34.results.toList (.two (.int .i64) (.int .i64)) K) (frame0 [(.int .i64 k0), part1, (.int .i64 kind2)] 39) w = V_spec_CountFaults k0 part1 kind2 w K := by
  kernel_rfl

theorem body_spec_CountFaults : Try.f34.body = some (bodyOf Try.f34) := by kernel_rfl
theorem name_spec_CountFaults : (Try.f34.name == "runtime.NumGoroutine") = false := by kernel_rfl

theorem walk_spec_CountFaults (k0 : Int) (part1 : Value) (kind2 : Int) {w : World} {K : (Int × Int) → World → Prop} (h : V_spec_CountFaults k0 part1 kind2 w K) : Fc Try.prog 34 #[(.int .i64 k0), part1, (.int .i64 kind2)] w (.two (.int .i64) (.int .i64)) K :=
  fn_ok follows O_spec_CountFaults_2_ok Try.func34 name_spec_CountFaults body_spec_CountFaults Try.ntmps34 [(.int .i64 k0), part1, (.int .i64 kind2)] (Eq.mpr (eq_spec_CountFaults k0 part1 kind2 w K) h)

-- uses S8Cnt
theorem c_spec_CountFaults {k kind : Int} {a : Value} {l : List Int} {w : World} {K : Int × Int → World → Prop} (_ : I64 k) (ha : ArgI w a l) (_ : I64 kind)
    (hK : ∀ w', Below w.heap.size w w' → K ((cntF k l kind).1, (cntF k l kind).2) w') : Fc Try.prog F_spec_CountFaults #[.int .i64 k, a, .int .i64 kind] w (.two (.int .i64) (.int .i64)) K := by
  unfold cntF at hK
  have h := ha.sl
  refine walk_spec_CountFaults _ _ _ (c_spec_l07Code ha.sl ?_)
  by_cases hp : IsPart k l ∧ 0 ≤ kind ∧ kind ≤ 2
  · rw [if_pos hp] at hK ⊢
    have hl := hp.1.2.2.1
    refine ⟨fun e => absurd rfl (ne_t e), fun _ => ?_⟩
    refine lp (fun s w' => 1 ≤ s.2 ∧ s.2 ≤ l.length + 1 ∧ Below w.heap.size w w' ∧ s.1 = (faR l kind 0 (s.2 - 1).toNat).length) (fun s _ => (l.length + 1 - s.2).toNat) ⟨by simp, by simp; omega, Below.refl _ _, by simp [faR]⟩ ?_
    rintro ⟨cnt, z⟩ w1 N ⟨z0, z1, hb, hc⟩ hN
    simp only at z0 z1 hc
    unfold B_spec_CountFaults_6
    refine lenI (h.keep hb) ⟨fun hle => ?_, fun hgt => ?_⟩
    · have hle := dec_t hle
      simp only at hle
      have hfl := faR_len l kind (z - 1).toNat (by omega)
      have hstep := faR_succ l kind 0 (z - 1).toNat
      rw [show ((0 + (z - 1).toNat : Nat) : Int) + 1 = z from by omega, show 0 + (z - 1).toNat = (z - 1).toNat from by omega] at hstep
      refine lp (fun s w' => 1 ≤ s.2 ∧ (s.2 ≤ z) ∧ Below w.heap.size w w' ∧ s.1 = cnt + (fz l kind z (s.2 - 1).toNat).length) (fun s _ => (z - s.2).toNat) ⟨by simp, by simp; omega, hb, by simp [fz]⟩ ?_
      rintro ⟨c, y⟩ w2 N' ⟨y0, y1, hb2, hc2⟩ hN'
      simp only at y0 y1 hc2
      unfold B_spec_CountFaults_9
      refine ⟨fun hlt => ?_, fun hge => ?_⟩
      · have hlt := dec_t hlt
        simp only at hlt
        refine c_spec_l07At (h.keep hb2) (by omega) y0 hlt hle fun w3 hb3 => ?_
        dsimp only
        have hbb := hb2.trans (hb3.mono hb2.size)
        have hfz := fz_len l kind z (y - 1).toNat
        have hsucc := congrArg List.length (fz_succ l kind z (y - 1).toNat)
        rw [show (((y - 1).toNat : Int) + 1) = y from by omega, List.length_append] at hsucc
        by_cases hi : IsF l kind y z
        · rw [if_pos hi] at hsucc ⊢
          simp only [List.length_singleton] at hsucc
          refine ⟨fun _ => ?_, fun hn => absurd hi.1 (by have := dec_f hn; omega)⟩
          rw [wrap_small (by omega) (by omega), wrap_small (by omega) (by omega)]
          refine hN' _ _ ⟨by simp; omega, by simp; omega, hbb, ?_⟩ (by simp; omega)
          simp only
          rw [show (y + 1 - 1).toNat = (y - 1).toNat + 1 from by omega, hsucc]
          omega
        · rw [if_neg hi] at hsucc ⊢
          simp only [List.length_nil] at hsucc
          refine ⟨fun hp => absurd (dec_t hp) (by omega), fun _ => ?_⟩
          rw [wrap_small (by omega) (by omega)]
          refine hN' _ _ ⟨by simp; omega, by simp; omega, hbb, ?_⟩ (by simp; omega)
          simp only
          rw [show (y + 1 - 1).toNat = (y - 1).toNat + 1 from by omega, hsucc]
          omega
      · have hge := dec_f hge
        simp only at hge
        have : y = z := by omega
        subst this
        intro _
        show N _ (c, IntKind.i64.wrap (y + 1)) w2
        rw [wrap_small (by omega) (by omega)]
        refine hN _ _ ⟨by simp; omega, by simp; omega, hb2, ?_⟩ (by simp; omega)
        simp only
        rw [show (y + 1 - 1).toNat = (y - 1).toNat + 1 from by omega, hstep, List.length_append, fz3, List.length_map]
        omega
    · have hgt := dec_f hgt
      simp only at hgt
      intro _
      have : z = l.length + 1 := by omega
      subst this
      rw [show ((l.length : Int) + 1 - 1).toNat = l.length from by omega] at hc
      subst hc
      exact hK w1 hb
  · rw [if_neg hp] at hK ⊢
    exact ⟨fun _ => hK w (Below.refl _ _), fun e => absurd (ne_f e) (by omega)⟩

end Go.Proofs.Ytdnofmicjgppnaa
