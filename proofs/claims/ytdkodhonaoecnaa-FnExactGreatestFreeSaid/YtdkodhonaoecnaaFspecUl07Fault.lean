/- The reading of spec_l07Fault, and its contract. No condition. -/
import Derived.Test.YtdkodhonaoecnaaTy
import Derived.Test.YtdkodhonaoecnaaS8Fault
import Derived.Test.YtdkodhonaoecnaaFspecUl07At
namespace Go.Proofs.Ytdkodhonaoecnaa
open Go Go.RowKit Eng Mem
set_option linter.unusedVariables false
set_option maxRecDepth 100000
def B_spec_l07Fault_5 (part0 : Value) (kind1 : Int) (z7 : Int) (y8 : Int) (N : (Value × Int × Int) → Int → World → Prop) (D2 : (Value × Int × Int × Unit) → World → Prop) (R : (Value × Unit) → World → Prop) (w : World) : Prop :=
  (((decide (y8 < z7)) = true → (Fc Try.prog 116 #[part0, (.int .i64 kind1), (.int .i64 y8), (.int .i64 z7)] w (.one (.int .i64)) fun (x26_3 : Int) w_2 => (((decide (x26_3 > (0 : Int))) = true → (Pr Try.prog (Instr.buildSlice 25 3 #[(0, (.int .i64 x26_3)), (1, (.int .i64 y8)), (2, (.int .i64 z7))]) w_2 (.one .any) fun (x32_5 : Value) w_4 => R ((x32_5 : Value), ()) w_4)) ∧ ((decide (x26_3 > (0 : Int))) = false → N ((part0 : Value), kind1, z7) (IntKind.i64.wrap (y8 + (1 : Int))) w_2)))) ∧ ((decide (y8 < z7)) = false → D2 ((part0 : Value), kind1, z7, ()) w))

abbrev L_spec_l07Fault_5_e2 : List Slot := [.k .any, .k (.int .i64), .junk, .junk, .junk, .junk, .junk, .k (.int .i64), .junk, .junk, .junk, .junk, .junk, .junk, .junk, .junk, .junk, .junk, .junk, .junk, .junk, .junk, .junk, .junk, .junk, .junk, .junk, .junk, .junk, .junk, .junk, .junk, .junk, .junk]

abbrev L_spec_l07Fault_5_sp : List Slot := [.k .any, .k (.int .i64), .junk, .junk, .junk, .junk, .junk, .k (.int .i64), .k (.int .i64), .junk, .junk, .junk, .junk, .junk, .junk, .junk, .junk, .junk, .junk, .junk, .junk, .junk, .junk, .junk, .junk, .junk, .junk, .junk, .junk, .junk, .junk, .junk, .junk, .junk]
abbrev L_spec_l07Fault_5_ex : List (Nat × List Slot) := [(2, L_spec_l07Fault_5_e2)]
abbrev L_spec_l07Fault_5_rt : List Slot := [.junk, .junk, .junk, .junk, .junk, .junk, .k .any, .junk, .junk, .junk, .junk, .junk, .junk, .junk, .junk, .junk, .junk, .junk, .junk, .junk, .junk, .junk, .junk, .junk, .junk, .junk, .junk, .junk, .junk, .junk, .junk, .junk, .junk, .junk]

def L_spec_l07Fault_5_b (Φ : Post) (u : (Value × Int × Int)) (N : (Value × Int × Int) → Int → World → Prop) (s : Int) (w : World) : Prop :=
  B_spec_l07Fault_5 u.1 u.2.1 u.2.2 s N (fun v w => ∀ j : Nat → Value, Φ (.exit 2) (mkT j 0 L_spec_l07Fault_5_e2 v) w) (fun v w => ∀ j : Nat → Value, Φ .ret (mkT j 0 L_spec_l07Fault_5_rt v) w) w

theorem L_spec_l07Fault_5_eq (j : Nat → Value) (u : (Value × Int × Int)) (s : Int) (N : (Value × Int × Int) → Int → World → Prop) (D2 : (Value × Int × Int × Unit) → World → Prop) (R : (Value × Unit) → World → Prop) (w : World) :
    W Try.prog ty (fun _ _ _ _ => False) (loopAt Try.f79 5) (loopPost L_spec_l07Fault_5_sp [(2, (⟨L_spec_l07Fault_5_e2, D2⟩ : Door))] ⟨L_spec_l07Fault_5_rt, R⟩ (fun v w => N ((fun v => (v.1, v.2.1, v.2.2.1)) v) ((fun v => v.2.2.2.1) v) w)) (mkT j 0 L_spec_l07Fault_5_sp ((fun u s => (u.1, u.2.1, u.2.2, s, ())) u s)) w =
    B_spec_l07Fault_5 u.1 u.2.1 u.2.2 s N D2 R w := by
  kernel_rfl

def O_spec_l07Fault_1 : Code → Post → List SV → World → Prop :=
  orc 5 (loopAt Try.f79 5) L_spec_l07Fault_5_sp (fun Φ fr w => LOOP (U := (Value × Int × Int)) (S := Int) ((fun v => (v.1, v.2.1, v.2.2.1)) (extT L_spec_l07Fault_5_sp fr)) (L_spec_l07Fault_5_b Φ ((fun v => (v.1, v.2.1, v.2.2.1)) (extT L_spec_l07Fault_5_sp fr))) ((fun v => v.2.2.2.1) (extT L_spec_l07Fault_5_sp fr)) w) (fun _ _ _ _ => False)

theorem O_spec_l07Fault_1_ok : Sound Try.prog O_spec_l07Fault_1 :=
  orc_ok (sound_none _) fun Φ fr w hs h => loop_ok (ty := ty) follows (sound_none _) L_spec_l07Fault_5_sp (fun v => (v.1, v.2.1, v.2.2.1)) (fun v => v.2.2.2.1) (fun u s => (u.1, u.2.1, u.2.2, s, ())) (fun _ => rfl) L_spec_l07Fault_5_ex L_spec_l07Fault_5_rt (body := L_spec_l07Fault_5_b Φ) (fun j u s w N hb => by
    have e := L_spec_l07Fault_5_eq j u s N (doorOf Φ (.exit 2) L_spec_l07Fault_5_e2).D (doorOf Φ .ret L_spec_l07Fault_5_rt).D w
    exact Eq.mpr e hb) hs h

def B_spec_l07Fault_2 (part0 : Value) (kind1 : Int) (z7 : Int) (N : (Value × Int) → Int → World → Prop) (D0 : (Unit) → World → Prop) (R : (Value × Unit) → World → Prop) (w : World) : Prop :=
  (QAll Try.prog (Builtin.len_ #[25] 3 #[part0]) (.int .i64) fun (x13_1 : Int) => (((decide (z7 ≤ x13_1)) = true → (At (loopAt Try.f79 5) (loopAt Try.f79 5) (LOOP (U := (Value × Int × Int)) (S := Int) ((part0 : Value), kind1, z7) (fun N_12 s_13 w_14 => B_spec_l07Fault_5 (part0 : Value) kind1 z7 s_13 N_12 (fun (v_6 : (Value × Int × Int × Unit)) w_7 => ∀ _j_8 : Nat → Value, N ((v_6.1 : Value), v_6.2.1) (IntKind.i64.wrap (v_6.2.2.1 + (1 : Int))) w_7) (fun (v_9 : (Value × Unit)) w_10 => ∀ _j_11 : Nat → Value, R ((v_9.1 : Value), ()) w_10) w_14) (1 : Int) w))) ∧ ((decide (z7 ≤ x13_1)) = false → D0 () w)))

abbrev L_spec_l07Fault_2_e0 : List Slot := [.junk, .junk, .junk, .junk, .junk, .junk, .junk, .junk, .junk, .junk, .junk, .junk, .junk, .junk, .junk, .junk, .junk, .junk, .junk, .junk, .junk, .junk, .junk, .junk, .junk, .junk, .junk, .junk, .junk, .junk, .junk, .junk, .junk, .junk]

abbrev L_spec_l07Fault_2_sp : List Slot := [.k .any, .k (.int .i64), .junk, .junk, .junk, .junk, .junk, .k (.int .i64), .junk, .junk, .junk, .junk, .junk, .junk, .junk, .junk, .junk, .junk, .junk, .junk, .junk, .junk, .junk, .junk, .junk, .junk, .junk, .junk, .junk, .junk, .junk, .junk, .junk, .junk]
abbrev L_spec_l07Fault_2_ex : List (Nat × List Slot) := [(0, L_spec_l07Fault_2_e0)]
abbrev L_spec_l07Fault_2_rt : List Slot := [.junk, .junk, .junk, .junk, .junk, .junk, .k .any, .junk, .junk, .junk, .junk, .junk, .junk, .junk, .junk, .junk, .junk, .junk, .junk, .junk, .junk, .junk, .junk, .junk, .junk, .junk, .junk, .junk, .junk, .junk, .junk, .junk, .junk, .junk]

def L_spec_l07Fault_2_b (Φ : Post) (u : (Value × Int)) (N : (Value × Int) → Int → World → Prop) (s : Int) (w : World) : Prop :=
  B_spec_l07Fault_2 u.1 u.2 s N (fun v w => ∀ j : Nat → Value, Φ (.exit 0) (mkT j 0 L_spec_l07Fault_2_e0 v) w) (fun v w => ∀ j : Nat → Value, Φ .ret (mkT j 0 L_spec_l07Fault_2_rt v) w) w

theorem L_spec_l07Fault_2_eq (j : Nat → Value) (u : (Value × Int)) (s : Int) (N : (Value × Int) → Int → World → Prop) (D0 : (Unit) → World → Prop) (R : (Value × Unit) → World → Prop) (w : World) :
    W Try.prog ty O_spec_l07Fault_1 (loopAt Try.f79 2) (loopPost L_spec_l07Fault_2_sp [(0, (⟨L_spec_l07Fault_2_e0, D0⟩ : Door))] ⟨L_spec_l07Fault_2_rt, R⟩ (fun v w => N ((fun v => (v.1, v.2.1)) v) ((fun v => v.2.2.1) v) w)) (mkT j 0 L_spec_l07Fault_2_sp ((fun u s => (u.1, u.2, s, ())) u s)) w =
    B_spec_l07Fault_2 u.1 u.2 s N D0 R w := by
  kernel_rfl

def O_spec_l07Fault_2 : Code → Post → List SV → World → Prop :=
  orc 2 (loopAt Try.f79 2) L_spec_l07Fault_2_sp (fun Φ fr w => LOOP (U := (Value × Int)) (S := Int) ((fun v => (v.1, v.2.1)) (extT L_spec_l07Fault_2_sp fr)) (L_spec_l07Fault_2_b Φ ((fun v => (v.1, v.2.1)) (extT L_spec_l07Fault_2_sp fr))) ((fun v => v.2.2.1) (extT L_spec_l07Fault_2_sp fr)) w) O_spec_l07Fault_1

theorem O_spec_l07Fault_2_ok : Sound Try.prog O_spec_l07Fault_2 :=
  orc_ok O_spec_l07Fault_1_ok fun Φ fr w hs h => loop_ok (ty := ty) follows O_spec_l07Fault_1_ok L_spec_l07Fault_2_sp (fun v => (v.1, v.2.1)) (fun v => v.2.2.1) (fun u s => (u.1, u.2, s, ())) (fun _ => rfl) L_spec_l07Fault_2_ex L_spec_l07Fault_2_rt (body := L_spec_l07Fault_2_b Φ) (fun j u s w N hb => by
    have e := L_spec_l07Fault_2_eq j u s N (doorOf Φ (.exit 0) L_spec_l07Fault_2_e0).D (doorOf Φ .ret L_spec_l07Fault_2_rt).D w
    exact Eq.mpr e hb) hs h

def V_spec_l07Fault (part0 : Value) (kind1 : Int) (from2 : Int) (w : World) (K : Value → World → Prop) : Prop :=
  (At (loopAt Try.f79 2) (loopAt Try.f79 2) (LOOP (U := (Value × Int)) (S := Int) ((part0 : Value), kind1) (fun N_23 s_24 w_25 => B_spec_l07Fault_2 (part0 : Value) kind1 s_24 N_23 (fun (v_15 : (Unit)) w_16 => ∀ _j_17 : Nat → Value, (Pr Try.prog (Instr.buildSlice 25 0 #[]) w_16 (.one .any) fun (x33_19 : Value) w_18 => K (x33_19 : Value) w_18)) (fun (v_20 : (Value × Unit)) w_21 => ∀ _j_22 : Nat → Value, K (v_20.1 : Value) w_21) w_25) from2 w))

theorem eq_spec_l07Fault (part0 : Value) (kind1 : Int) (from2 : Int) (w : World) (K : Value → World → Prop) :
    W Try.prog ty O_spec_l07Fault_2 (bodyOf Try.f79) (fnPost Try.prog Try.f79.results.toList (.one .any) K) (frame0 [part0, (.int .i64 kind1), (.int .i64 from2)] 34) w = V_spec_l07Fault part0 kind1 from2 w K := by
  kernel_rfl

theorem body_spec_l07Fault : Try.f79.body = some (bodyOf Try.f79) := by kernel_rfl
theorem name_spec_l07Fault : (Try.f79.name == "runtime.NumGoroutine") = false := by kernel_rfl

theorem walk_spec_l07Fault (part0 : Value) (kind1 : Int) (from2 : Int) {w : World} {K : Value → World → Prop} (h : V_spec_l07Fault part0 kind1 from2 w K) : Fc Try.prog 79 #[part0, (.int .i64 kind1), (.int .i64 from2)] w (.one .any) K :=
  fn_ok follows O_spec_l07Fault_2_ok Try.func79 name_spec_l07Fault body_spec_l07Fault Try.ntmps79 [part0, (.int .i64 kind1), (.int .i64 from2)] (Eq.mpr (eq_spec_l07Fault part0 kind1 from2 w K) h)

-- uses S8Fault
theorem c_spec_l07Fault {a : Value} {l : List Int} {kind from_ : Int} {w : World} {K : Value → World → Prop} (h : SlI w a l) (hl : l.length ≤ 41) (f0 : 1 ≤ from_) (f1 : from_ ≤ l.length + 1)
    (hK : ∀ w' v, Below w.heap.size w w' → MyI w.heap.size w'.heap.size w' v ((faR l kind (from_ - 1).toNat (l.length + 1 - from_).toNat).headD []) → K v w') :
    Fc Try.prog F_spec_l07Fault #[a, .int .i64 kind, .int .i64 from_] w (.one .any) K := by
  obtain ⟨c, hc⟩ : ∃ c, (from_ - 1).toNat = c := ⟨_, rfl⟩
  rw [hc] at hK
  refine walk_spec_l07Fault _ _ _ ?_
  refine lp (fun z w' => from_ ≤ z ∧ z ≤ l.length + 1 ∧ Below w.heap.size w w' ∧ faR l kind c (z - from_).toNat = []) (fun z _ => (l.length + 1 - z).toNat) ⟨by omega, by omega, Below.refl _ _, by simp [faR]⟩ ?_
  rintro z w1 N ⟨z0, z1, hb, hz⟩ hN
  unfold B_spec_l07Fault_2
  refine lenI (h.keep hb) ⟨fun hle => ?_, fun hgt => ?_⟩
  · have hle := dec_t hle
    have hstep := faR_succ l kind c (z - from_).toNat
    rw [hz, List.nil_append, show ((c + (z - from_).toNat : Nat) : Int) + 1 = z from by omega, show c + (z - from_).toNat = (z - 1).toNat from by omega] at hstep
    have hmore : ∀ m, (z - from_).toNat + 1 + m = (l.length + 1 - from_).toNat → ∀ t r, fz3 l kind z (z - 1).toNat = t :: r → (faR l kind c (l.length + 1 - from_).toNat).headD [] = t := fun m hm t r ht => by
      have : ∀ m, ∃ s, faR l kind c ((z - from_).toNat + 1 + m) = fz3 l kind z (z - 1).toNat ++ s := fun m => by
        induction m with
        | zero => exact ⟨[], by rw [Nat.add_zero, hstep, List.append_nil]⟩
        | succ m ih =>
          obtain ⟨s, hs⟩ := ih
          exact ⟨_, by rw [← Nat.add_assoc, faR_succ, hs, List.append_assoc]⟩
      obtain ⟨s, hs⟩ := this m
      rw [← hm, hs, ht]
      rfl
    refine lp (fun y w' => 1 ≤ y ∧ y ≤ (if z ≤ 1 then 1 else z) ∧ Below w.heap.size w w' ∧ fz l kind z (y - 1).toNat = []) (fun y _ => (z - y).toNat) ⟨by omega, by split <;> omega, hb, by simp [fz]⟩ ?_
    rintro y w2 N' ⟨y0, y1, hb2, hy⟩ hN'
    unfold B_spec_l07Fault_5
    refine ⟨fun hlt => ?_, fun hge => ?_⟩
    · have hlt := dec_t hlt
      refine c_spec_l07At (h.keep hb2) hl y0 hlt hle fun w3 hb3 => ?_
      have hbb := hb2.trans (hb3.mono hb2.size)
      have hsucc := fz_succ l kind z (y - 1).toNat
      rw [show (((y - 1).toNat : Int) + 1) = y from by omega, hy, List.nil_append] at hsucc
      by_cases hi : IsF l kind y z
      · rw [if_pos hi] at hsucc ⊢
        refine ⟨fun _ => mk3 ySI rfl rfl rfl fun b w4 n4 ho => ?_, fun hn => absurd hi.1 (by have := dec_f hn; omega)⟩
        intro _ _
        have hall : ∀ m, ∃ s, fz l kind z ((y - 1).toNat + 1 + m) = (xF kind y z, y) :: s := fun m => by
          induction m with
          | zero => exact ⟨[], by rw [Nat.add_zero, hsucc]⟩
          | succ m ih =>
            obtain ⟨s, hs⟩ := ih
            exact ⟨_, by rw [← Nat.add_assoc, fz_succ, hs, List.cons_append]⟩
        obtain ⟨s, hs⟩ := hall (z - 1 - y).toNat
        rw [show (y - 1).toNat + 1 + (z - 1 - y).toNat = (z - 1).toNat from by omega] at hs
        have ht := hmore ((l.length + 1 - from_).toNat - ((z - from_).toNat + 1)) (by omega) [xF kind y z, y, z] (s.map fun p => [p.1, p.2, z]) (by unfold fz3; rw [hs]; rfl)
        have hs3 := hbb.size; have e4 := n4.here
        refine hK w4 _ (hbb.trans (n4.below.mono hs3)) ?_
        rw [ht]
        exact own_my ho (by simp) (by omega) ho.lt
      · rw [if_neg hi] at hsucc ⊢
        refine ⟨fun hp => absurd (dec_t hp) (by omega), fun _ => ?_⟩
        rw [wrap_small (by omega) (by omega)]
        refine hN' _ _ ⟨by omega, by split <;> omega, hbb, by rw [show (y + 1 - 1).toNat = (y - 1).toNat + 1 from by omega, hsucc]⟩ (by omega)
    · have hge := dec_f hge
      intro _
      show N _ (IntKind.i64.wrap (z + 1)) w2
      rw [wrap_small (by omega) (by omega)]
      refine hN _ _ ⟨by omega, by omega, hb2, ?_⟩ (by omega)
      have hyz : (y - 1).toNat = (z - 1).toNat := by split at y1 <;> omega
      rw [hyz] at hy
      rw [show (z + 1 - from_).toNat = (z - from_).toNat + 1 from by omega, hstep, fz3, hy]
      rfl
  · have hgt := dec_f hgt
    intro _
    have : z = l.length + 1 := by omega
    subst this
    refine nilI fun b v w2 hb2 hbel ho => ?_
    have hs := hb.size
    refine hK w2 v (hb.trans (hbel.mono hs)) ?_
    rw [hz]
    exact own_my ho (by simp) (by omega) ho.lt

end Go.Proofs.Ytdkodhonaoecnaa
