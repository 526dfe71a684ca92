/- The reading of spec_l01All, and its contract. No condition. -/
import Derived.Test.YtkadckhealbdaaaTy
import Derived.Test.YtkadckhealbdaaaS3Part
import Derived.Test.YtkadckhealbdaaaFspecUl01In
namespace Go.Proofs.Ytkadckhealbdaaa
open Go Go.RowKit Eng Mem
set_option linter.unusedVariables false
set_option maxRecDepth 100000
def B_spec_l01All_2 (list0 : Value) (k1 : Int) (i5 : Int) (N : (Value × Int) → Int → World → Prop) (D0 : (Unit) → World → Prop) (R : (Bool × Unit) → World → Prop) (w : World) : Prop :=
  (QAll Try.prog (Builtin.len_ #[31] 3 #[list0]) (.int .i64) fun (x8_1 : Int) => (((decide (i5 < x8_1)) = true → (QAll Try.prog (Instr.indexAt 31 list0 (.int .i64 i5)) .any fun (x14_2 : Value) => (QSub Try.prog (Instr.loadAt 2 x14_2) w (.int .i64) fun (x15_3 : Int) => (Fc Try.prog 43 #[(.int .i64 x15_3), (.int .i64 (0 : Int)), (.int .i64 (IntKind.i64.wrap (k1 - (1 : Int))))] w (.one .bool) fun (x18_5 : Bool) w_4 => (((!x18_5) = true → R (false, ()) w_4) ∧ ((!x18_5) = false → N ((list0 : Value), k1) (IntKind.i64.wrap (i5 + (1 : Int))) w_4)))))) ∧ ((decide (i5 < x8_1)) = false → D0 () w)))

abbrev L_spec_l01All_2_e0 : List Slot := [.junk, .junk, .junk, .junk, .junk, .junk, .junk, .junk, .junk, .junk, .junk, .junk, .junk, .junk, .junk, .junk, .junk, .junk, .junk, .junk]

abbrev L_spec_l01All_2_sp : List Slot := [.k .any, .k (.int .i64), .junk, .junk, .junk, .k (.int .i64), .junk, .junk, .junk, .junk, .junk, .junk, .junk, .junk, .junk, .junk, .junk, .junk, .junk, .junk]
abbrev L_spec_l01All_2_ex : List (Nat × List Slot) := [(0, L_spec_l01All_2_e0)]
abbrev L_spec_l01All_2_rt : List Slot := [.junk, .junk, .junk, .junk, .k .bool, .junk, .junk, .junk, .junk, .junk, .junk, .junk, .junk, .junk, .junk, .junk, .junk, .junk, .junk, .junk]

def L_spec_l01All_2_b (Φ : Post) (u : (Value × Int)) (N : (Value × Int) → Int → World → Prop) (s : Int) (w : World) : Prop :=
  B_spec_l01All_2 u.1 u.2 s N (fun v w => ∀ j : Nat → Value, Φ (.exit 0) (mkT j 0 L_spec_l01All_2_e0 v) w) (fun v w => ∀ j : Nat → Value, Φ .ret (mkT j 0 L_spec_l01All_2_rt v) w) w

theorem L_spec_l01All_2_eq (j : Nat → Value) (u : (Value × Int)) (s : Int) (N : (Value × Int) → Int → World → Prop) (D0 : (Unit) → World → Prop) (R : (Bool × Unit) → World → Prop) (w : World) :
    W Try.prog ty (fun _ _ _ _ => False) (loopAt Try.f86 2) (loopPost L_spec_l01All_2_sp [(0, (⟨L_spec_l01All_2_e0, D0⟩ : Door))] ⟨L_spec_l01All_2_rt, R⟩ (fun v w => N ((fun v => (v.1, v.2.1)) v) ((fun v => v.2.2.1) v) w)) (mkT j 0 L_spec_l01All_2_sp ((fun u s => (u.1, u.2, s, ())) u s)) w =
    B_spec_l01All_2 u.1 u.2 s N D0 R w := by
  kernel_rfl

def O_spec_l01All_1 : Code → Post → List SV → World → Prop :=
  orc 2 (loopAt Try.f86 2) L_spec_l01All_2_sp (fun Φ fr w => LOOP (U := (Value × Int)) (S := Int) ((fun v => (v.1, v.2.1)) (extT L_spec_l01All_2_sp fr)) (L_spec_l01All_2_b Φ ((fun v => (v.1, v.2.1)) (extT L_spec_l01All_2_sp fr))) ((fun v => v.2.2.1) (extT L_spec_l01All_2_sp fr)) w) (fun _ _ _ _ => False)

theorem O_spec_l01All_1_ok : Sound Try.prog O_spec_l01All_1 :=
  orc_ok (sound_none _) fun Φ fr w hs h => loop_ok (ty := ty) follows (sound_none _) L_spec_l01All_2_sp (fun v => (v.1, v.2.1)) (fun v => v.2.2.1) (fun u s => (u.1, u.2, s, ())) (fun _ => rfl) L_spec_l01All_2_ex L_spec_l01All_2_rt (body := L_spec_l01All_2_b Φ) (fun j u s w N hb => by
    have e := L_spec_l01All_2_eq j u s N (doorOf Φ (.exit 0) L_spec_l01All_2_e0).D (doorOf Φ .ret L_spec_l01All_2_rt).D w
    exact Eq.mpr e hb) hs h

def V_spec_l01All (list0 : Value) (k1 : Int) (w : World) (K : Bool → World → Prop) : Prop :=
  (At (loopAt Try.f86 2) (loopAt Try.f86 2) (LOOP (U := (Value × Int)) (S := Int) ((list0 : Value), k1) (fun N_12 s_13 w_14 => B_spec_l01All_2 (list0 : Value) k1 s_13 N_12 (fun (v_6 : (Unit)) w_7 => ∀ _j_8 : Nat → Value, K true w_7) (fun (v_9 : (Bool × Unit)) w_10 => ∀ _j_11 : Nat → Value, K v_9.1 w_10) w_14) (0 : Int) w))

theorem eq_spec_l01All (list0 : Value) (k1 : Int) (w : World) (K : Bool → World → Prop) :
    W Try.prog ty O_spec_l01All_1 (bodyOf Try.f86) (fnPost Try.prog Try.f86.results.toList (.one .bool) K) (frame0 [list0, (.int .i64 k1)] 20) w = V_spec_l01All list0 k1 w K := by
  kernel_rfl

theorem body_spec_l01All : Try.f86.body = some (bodyOf Try.f86) := by kernel_rfl
theorem name_spec_l01All : (Try.f86.name == "runtime.NumGoroutine") = false := by kernel_rfl

theorem walk_spec_l01All (list0 : Value) (k1 : Int) {w : World} {K : Bool → World → Prop} (h : V_spec_l01All list0 k1 w K) : Fc Try.prog 86 #[list0, (.int .i64 k1)] w (.one .bool) K :=
  fn_ok follows O_spec_l01All_1_ok Try.func86 name_spec_l01All body_spec_l01All Try.ntmps86 [list0, (.int .i64 k1)] (Eq.mpr (eq_spec_l01All list0 k1 w K) h)

-- uses S3Part
theorem c_spec_l01All {k : Int} {a : Value} {l : List Int} {w : World} {K : Bool → World → Prop} (h : SlI w a l) (k0 : -9223372036854775807 ≤ k) (k1 : k ≤ 9223372036854775807) (hK : K (decide (AllIn l 0 (k - 1))) w) :
    Fc Try.prog F_spec_l01All #[a, .int .i64 k] w (.one .bool) K := by
  have hlen := h.len
  refine walk_spec_l01All _ _ ?_
  refine lp (fun i w' => 0 ≤ i ∧ i ≤ l.length ∧ w' = w ∧ ∀ j : Nat, (j : Int) < i → 0 ≤ l.getD j 0 ∧ l.getD j 0 ≤ k - 1) (fun i _ => (l.length - i).toNat)
    ⟨by omega, by omega, rfl, fun j hj => by omega⟩ ?_
  rintro i w1 N ⟨h0, hi, rfl, hall⟩ hN
  unfold B_spec_l01All_2
  refine lenI h ⟨fun hlt => ?_, fun hge => ?_⟩
  · have hlt := dec_t hlt
    refine atI h h0 hlt ?_
    rw [wrap_small (by omega) (by omega)]
    refine c_spec_l01In _ _ _ ⟨fun hn _ => ?_, fun hy => ?_⟩
    · have hn := notd_t hn
      rwa [decide_eq_false (fun ha => hn (AllIn.get ha (by omega)))] at hK
    · have hy := notd_f hy
      rw [wrap_small (by omega) (by omega)]
      refine hN _ _ ⟨by omega, by omega, rfl, fun j hj => ?_⟩ (by omega)
      by_cases hji : (j : Int) < i
      · exact hall j hji
      · have : j = i.toNat := by omega
        subst this; exact hy
  · have hge := dec_f hge
    intro _
    rwa [decide_eq_true (allIn_of fun i hi => hall i (by omega))] at hK

end Go.Proofs.Ytkadckhealbdaaa
