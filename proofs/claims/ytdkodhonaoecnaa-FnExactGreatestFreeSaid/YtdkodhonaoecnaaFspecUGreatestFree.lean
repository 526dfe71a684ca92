/- The reading of spec_GreatestFree, and its contract. No condition. -/
import Derived.Test.YtdkodhonaoecnaaTy
import Derived.Test.YtdkodhonaoecnaaS8Great
import Derived.Test.YtdkodhonaoecnaaFspecUl01In
import Derived.Test.YtdkodhonaoecnaaFspecUl07Code
import Derived.Test.YtdkodhonaoecnaaFspecUl07Find
namespace Go.Proofs.Ytdkodhonaoecnaa
open Go Go.RowKit Eng Mem
set_option linter.unusedVariables false
set_option maxRecDepth 100000
def B_spec_GreatestFree_4 (k0 : Int) (kind1 : Int) (n6 : Int) (N : (Int × Int) → Int → World → Prop) (D0 : (Int × Unit) → World → Prop) (w : World) : Prop :=
  (((decide (n6 < (40 : Int))) = true → (Pr Try.prog (Instr.buildSlice 25 0 #[]) w (.one .any) fun (x24_6 : Value) w_5 => (Fc Try.prog 59 #[(.int .i64 (IntKind.i64.wrap (n6 + (1 : Int)))), (.int .i64 k0), x24_6, (.int .i64 kind1)] w_5 (.two .any .bool) fun (x26_8 : Value × Bool) w_7 => (((!x26_8.2) = true → D0 (n6, ()) w_7) ∧ ((!x26_8.2) = false → N (k0, kind1) (IntKind.i64.wrap (n6 + (1 : Int))) w_7))))) ∧ ((decide (n6 < (40 : Int))) = false → D0 (n6, ()) w))

abbrev L_spec_GreatestFree_4_e0 : List Slot := [.junk, .junk, .junk, .junk, .junk, .junk, .k (.int .i64), .junk, .junk, .junk, .junk, .junk, .junk, .junk, .junk, .junk, .junk, .junk, .junk, .junk, .junk, .junk, .junk, .junk, .junk, .junk, .junk, .junk, .junk, .junk, .junk, .junk, .junk, .junk]

abbrev L_spec_GreatestFree_4_sp : List Slot := [.k (.int .i64), .k (.int .i64), .junk, .junk, .junk, .junk, .k (.int .i64), .junk, .junk, .junk, .junk, .junk, .junk, .junk, .junk, .junk, .junk, .junk, .junk, .junk, .junk, .junk, .junk, .junk, .junk, .junk, .junk, .junk, .junk, .junk, .junk, .junk, .junk, .junk]
abbrev L_spec_GreatestFree_4_ex : List (Nat × List Slot) := [(0, L_spec_GreatestFree_4_e0)]
abbrev L_spec_GreatestFree_4_rt : List Slot := [.junk, .junk, .junk, .junk, .junk, .junk, .junk, .junk, .junk, .junk, .junk, .junk, .junk, .junk, .junk, .junk, .junk, .junk, .junk, .junk, .junk, .junk, .junk, .junk, .junk, .junk, .junk, .junk, .junk, .junk, .junk, .junk, .junk, .junk]

def L_spec_GreatestFree_4_b (Φ : Post) (u : (Int × Int)) (N : (Int × Int) → Int → World → Prop) (s : Int) (w : World) : Prop :=
  B_spec_GreatestFree_4 u.1 u.2 s N (fun v w => ∀ j : Nat → Value, Φ (.exit 0) (mkT j 0 L_spec_GreatestFree_4_e0 v) w) w

theorem L_spec_GreatestFree_4_eq (j : Nat → Value) (u : (Int × Int)) (s : Int) (N : (Int × Int) → Int → World → Prop) (D0 : (Int × Unit) → World → Prop) (R : (Unit) → World → Prop) (w : World) :
    W Try.prog ty (fun _ _ _ _ => False) (loopAt Try.f22 4) (loopPost L_spec_GreatestFree_4_sp [(0, (⟨L_spec_GreatestFree_4_e0, D0⟩ : Door))] ⟨L_spec_GreatestFree_4_rt, R⟩ (fun v w => N ((fun v => (v.1, v.2.1)) v) ((fun v => v.2.2.1) v) w)) (mkT j 0 L_spec_GreatestFree_4_sp ((fun u s => (u.1, u.2, s, ())) u s)) w =
    B_spec_GreatestFree_4 u.1 u.2 s N D0 w := by
  kernel_rfl

def O_spec_GreatestFree_1 : Code → Post → List SV → World → Prop :=
  orc 4 (loopAt Try.f22 4) L_spec_GreatestFree_4_sp (fun Φ fr w => LOOP (U := (Int × Int)) (S := Int) ((fun v => (v.1, v.2.1)) (extT L_spec_GreatestFree_4_sp fr)) (L_spec_GreatestFree_4_b Φ ((fun v => (v.1, v.2.1)) (extT L_spec_GreatestFree_4_sp fr))) ((fun v => v.2.2.1) (extT L_spec_GreatestFree_4_sp fr)) w) (fun _ _ _ _ => False)

theorem O_spec_GreatestFree_1_ok : Sound Try.prog O_spec_GreatestFree_1 :=
  orc_ok (sound_none _) fun Φ fr w hs h => loop_ok (ty := ty) follows (sound_none _) L_spec_GreatestFree_4_sp (fun v => (v.1, v.2.1)) (fun v => v.2.2.1) (fun u s => (u.1, u.2, s, ())) (fun _ => rfl) L_spec_GreatestFree_4_ex L_spec_GreatestFree_4_rt (body := L_spec_GreatestFree_4_b Φ) (fun j u s w N hb => by
    have e := L_spec_GreatestFree_4_eq j u s N (doorOf Φ (.exit 0) L_spec_GreatestFree_4_e0).D (doorOf Φ .ret L_spec_GreatestFree_4_rt).D w
    exact Eq.mpr e hb) hs h

def V_spec_GreatestFree (k0 : Int) (kind1 : Int) (w : World) (K : (Int × Int) → World → Prop) : Prop :=
  (Fc Try.prog 45 #[(.int .i64 k0), (.int .i64 (1 : Int)), (.int .i64 (2 : Int))] w (.one .bool) fun (x10_2 : Bool) w_1 => (((!x10_2) = true → K ((0 : Int), (2 : Int)) w_1) ∧ ((!x10_2) = false → (Fc Try.prog 58 #[(.int .i64 k0), (.slice none 0 0), (.int .i64 kind1)] w_1 (.one (.int .i64)) fun (x15_4 : Int) w_3 => (((x15_4 != (0 : Int)) = true → K ((0 : Int), (2 : Int)) w_3) ∧ ((x15_4 != (0 : Int)) = false → (At (loopAt Try.f22 4) (loopAt Try.f22 4) (LOOP (U := (Int × Int)) (S := Int) (k0, kind1) (fun N_12 s_13 w_14 => B_spec_GreatestFree_4 k0 kind1 s_13 N_12 (fun (v_9 : (Int × Unit)) w_10 => ∀ _j_11 : Nat → Value, K (v_9.1, (0 : Int)) w_10) w_14) (0 : Int) w_3))))))))

theorem eq_spec_GreatestFree (k0 : Int) (kind1 : Int) (w : World) (K : (Int × Int) → World → Prop) :
    W Try.prog ty O_spec_GreatestFree_1 (bodyOf Try.f22) (fnPost Try.prog Try.f22.results.toList (.two (.int .i64) (.int .i64)) K) (frame0 [(.int .i64 k0), (.int .i64 kind1)] 34) w = V_spec_GreatestFree k0 kind1 w K := by
  kernel_rfl

theorem body_spec_GreatestFree : Try.f22.body = some (bodyOf Try.f22) := by kernel_rfl
theorem name_spec_GreatestFree : (Try.f22.name == "runtime.NumGoroutine") = false := by kernel_rfl

theorem walk_spec_GreatestFree (k0 : Int) (kind1 : Int) {w : World} {K : (Int × Int) → World → Prop} (h : V_spec_GreatestFree k0 kind1 w K) : Fc Try.prog 22 #[(.int .i64 k0), (.int .i64 kind1)] w (.two (.int .i64) (.int .i64)) K :=
  fn_ok follows O_spec_GreatestFree_1_ok Try.func22 name_spec_GreatestFree body_spec_GreatestFree Try.ntmps22 [(.int .i64 k0), (.int .i64 kind1)] (Eq.mpr (eq_spec_GreatestFree k0 kind1 w K) h)

-- uses S8Great
theorem c_spec_GreatestFree {k kind : Int} {w : World} {K : Int × Int → World → Prop} (_ : I64 k) (_ : I64 kind)
    (hK : ∀ w', Below w.heap.size w w' → K ((greatF k kind).1, (greatF k kind).2) w') : Fc Try.prog F_spec_GreatestFree #[.int .i64 k, .int .i64 kind] w (.two (.int .i64) (.int .i64)) K := by
  unfold greatF at hK
  have k0 := hK w (Below.refl _ _)
  refine walk_spec_GreatestFree _ _ (c_spec_l01In _ _ _ ⟨fun h => by rwa [if_neg (fun hh => notd_t h hh.1)] at k0, fun h1 => c_spec_l07Code (slI_nil w) ?_⟩)
  have h1 := notd_f h1
  have hnil := isPart_nil k
  by_cases h : IsPart k [] ∧ 0 ≤ kind ∧ kind ≤ 2
  case neg =>
    rw [if_neg h]
    rw [if_neg (fun hh => h ⟨hnil.2 ⟨hh.1.1, by omega⟩, hh.2⟩)] at k0
    exact ⟨fun _ => k0, fun e => absurd (ne_f e) (by omega)⟩
  rw [if_pos h]
  rw [if_pos ⟨h1, h.2⟩] at hK
  refine ⟨fun e => absurd rfl (ne_t e), fun _ => ?_⟩
  refine lp (fun n w' => 0 ≤ n ∧ n ≤ 40 ∧ Below w.heap.size w w' ∧ ∃ p ∈ allV k kind 40 40 [], (p.length : Int) = n) (fun n _ => (40 - n).toNat) ⟨by omega, by omega, Below.refl _ _, [], (mem_allV (f := 39) (by simp)).2 (.inl rfl), by simp⟩ ?_
  rintro n w1 N ⟨n0, n1, hb, p, hp, hpl⟩ hN
  unfold B_spec_GreatestFree_4
  refine ⟨fun hlt => ?_, fun hge => ?_⟩
  · have hlt := dec_t hlt
    refine nilI fun b v w2 hb2 hbel ho => ?_
    have hs := hb.size; have hs2 := hbel.size
    rw [wrap_small (by omega) (by omega)]
    have hnn : (((n + 1).toNat : Nat) : Int) = n + 1 := by omega
    have main := c_spec_l07Find (k := k) (kind := kind) (n := (n + 1).toNat) w.heap.size (by omega) (by omega) (n + 1).toNat [] v w2
    rw [hnn] at main
    refine main _ (by simp) (by omega) (own_my ho (by simp) (by omega) ho.lt) (fun w3 v' q hb3 hf hq => ⟨fun h => Bool.noConfusion h, fun _ => ?_⟩) fun w3 hb3 hf => ⟨fun _ => ?_, fun h => Bool.noConfusion h⟩
    · have := (find_iff k kind 40 (n + 1).toNat (by omega) 40 [] (by simp) (by simp)).1 (by rw [List.length_nil, Nat.sub_zero, hf]; rfl)
      obtain ⟨r, hr, hrl⟩ := this
      exact hN _ _ ⟨by omega, by omega, hb.trans ((hbel.trans (hb3.mono hs2)).mono hs), r, hr, by omega⟩ (by omega)
    · intro _
      have hg := great_is (k := k) (kind := kind) (n := n.toNat) (by omega) ⟨p, hp, by omega⟩ (.inr (by rw [show n.toNat + 1 = (n + 1).toNat from by omega]; exact hf))
      have := hK w3 (hb.trans ((hbel.trans (hb3.mono hs2)).mono hs))
      rw [hg, show ((n.toNat : Nat) : Int) = n from by omega] at this
      exact this
  · have hge := dec_f hge
    have : n = 40 := by omega
    subst this
    intro _
    have hg := great_is (k := k) (kind := kind) (n := 40) (by omega) ⟨p, hp, by omega⟩ (.inl rfl)
    have := hK w1 hb
    rw [hg] at this
    exact this

end Go.Proofs.Ytdkodhonaoecnaa
