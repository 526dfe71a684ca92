/- The reading of impl_AngleNumber, and its contract. No condition. -/
import Derived.Test.YtdkodhonaoecnaaTy
import Derived.Test.YtdkodhonaoecnaaS9Bal
import Derived.Test.YtdkodhonaoecnaaFimplUColouringUcode
import Derived.Test.YtdkodhonaoecnaaFimplUColouringUdegrees
import Derived.Test.YtdkodhonaoecnaaFimplUalways
namespace Go.Proofs.Ytdkodhonaoecnaa
open Go Go.RowKit Eng Mem
set_option linter.unusedVariables false
set_option maxRecDepth 100000
def B_impl_AngleNumber_13 (x1 : Value) (c6 : Int) (other8 : Value) (x16 : Int) (x17 : Int) (x20 : Int) (x21 : Int) (x27 : Value) (x28 : Int) (out5 : Int) (x29 : Int) (N : (Value × Int × Value × Int × Int × Int × Int × Value × Int) → (Int × Int) → World → Prop) (D4 : (Value × Int × Int × Int × Int × Int × Int × Unit) → World → Prop) (w : World) : Prop :=
  (((decide (x29 < x28)) = true → (QAll Try.prog (Instr.indexAt 25 x27 (.int .i64 x29)) .any fun (x32_12 : Value) => (QSub Try.prog (Instr.loadAt 2 x32_12) w (.int .i64) fun (x33_13 : Int) => (QAll Try.prog (Instr.indexAt 25 other8 (.int .i64 x29)) .any fun (x38_14 : Value) => (QSub Try.prog (Instr.loadAt 2 x38_14) w (.int .i64) fun (x39_15 : Int) => N ((x1 : Value), c6, (other8 : Value), x16, x17, x20, x21, (x27 : Value), x28) ((IntKind.i64.wrap (out5 + (IntKind.i64.wrap (x33_13 * x39_15)))), (IntKind.i64.wrap (x29 + (1 : Int)))) w))))) ∧ ((decide (x29 < x28)) = false → D4 ((x1 : Value), out5, c6, x16, x17, x20, x21, ()) w))

abbrev L_impl_AngleNumber_13_e4 : List Slot := [.junk, .k .any, .junk, .junk, .junk, .k (.int .i64), .k (.int .i64), .junk, .junk, .junk, .junk, .junk, .junk, .junk, .junk, .junk, .k (.int .i64), .k (.int .i64), .junk, .junk, .k (.int .i64), .k (.int .i64), .junk, .junk, .junk, .junk, .junk, .junk, .junk, .junk, .junk, .junk, .junk, .junk, .junk, .junk, .junk, .junk, .junk, .junk, .junk, .junk, .junk, .junk, .junk, .junk]

abbrev L_impl_AngleNumber_13_sp : List Slot := [.junk, .k .any, .junk, .junk, .junk, .k (.int .i64), .k (.int .i64), .junk, .k .any, .junk, .junk, .junk, .junk, .junk, .junk, .junk, .k (.int .i64), .k (.int .i64), .junk, .junk, .k (.int .i64), .k (.int .i64), .junk, .junk, .junk, .junk, .junk, .k .any, .k (.int .i64), .k (.int .i64), .junk, .junk, .junk, .junk, .junk, .junk, .junk, .junk, .junk, .junk, .junk, .junk, .junk, .junk, .junk, .junk]
abbrev L_impl_AngleNumber_13_ex : List (Nat × List Slot) := [(4, L_impl_AngleNumber_13_e4)]
abbrev L_impl_AngleNumber_13_rt : List Slot := [.junk, .junk, .junk, .junk, .junk, .junk, .junk, .junk, .junk, .junk, .junk, .junk, .junk, .junk, .junk, .junk, .junk, .junk, .junk, .junk, .junk, .junk, .junk, .junk, .junk, .junk, .junk, .junk, .junk, .junk, .junk, .junk, .junk, .junk, .junk, .junk, .junk, .junk, .junk, .junk, .junk, .junk, .junk, .junk, .junk, .junk]

def L_impl_AngleNumber_13_b (Φ : Post) (u : (Value × Int × Value × Int × Int × Int × Int × Value × Int)) (N : (Value × Int × Value × Int × Int × Int × Int × Value × Int) → (Int × Int) → World → Prop) (s : (Int × Int)) (w : World) : Prop :=
  B_impl_AngleNumber_13 u.1 u.2.1 u.2.2.1 u.2.2.2.1 u.2.2.2.2.1 u.2.2.2.2.2.1 u.2.2.2.2.2.2.1 u.2.2.2.2.2.2.2.1 u.2.2.2.2.2.2.2.2 s.1 s.2 N (fun v w => ∀ j : Nat → Value, Φ (.exit 4) (mkT j 0 L_impl_AngleNumber_13_e4 v) w) w

theorem L_impl_AngleNumber_13_eq (j : Nat → Value) (u : (Value × Int × Value × Int × Int × Int × Int × Value × Int)) (s : (Int × Int)) (N : (Value × Int × Value × Int × Int × Int × Int × Value × Int) → (Int × Int) → World → Prop) (D4 : (Value × Int × Int × Int × Int × Int × Int × Unit) → World → Prop) (R : (Unit) → World → Prop) (w : World) :
    W Try.prog ty (fun _ _ _ _ => False) (loopAt Try.f36 13) (loopPost L_impl_AngleNumber_13_sp [(4, (⟨L_impl_AngleNumber_13_e4, D4⟩ : Door))] ⟨L_impl_AngleNumber_13_rt, R⟩ (fun v w => N ((fun v => (v.1, v.2.2.1, v.2.2.2.1, v.2.2.2.2.1, v.2.2.2.2.2.1, v.2.2.2.2.2.2.1, v.2.2.2.2.2.2.2.1, v.2.2.2.2.2.2.2.2.1, v.2.2.2.2.2.2.2.2.2.1)) v) ((fun v => (v.2.1, v.2.2.2.2.2.2.2.2.2.2.1)) v) w)) (mkT j 0 L_impl_AngleNumber_13_sp ((fun u s => (u.1, s.1, u.2.1, u.2.2.1, u.2.2.2.1, u.2.2.2.2.1, u.2.2.2.2.2.1, u.2.2.2.2.2.2.1, u.2.2.2.2.2.2.2.1, u.2.2.2.2.2.2.2.2, s.2, ())) u s)) w =
    B_impl_AngleNumber_13 u.1 u.2.1 u.2.2.1 u.2.2.2.1 u.2.2.2.2.1 u.2.2.2.2.2.1 u.2.2.2.2.2.2.1 u.2.2.2.2.2.2.2.1 u.2.2.2.2.2.2.2.2 s.1 s.2 N D4 w := by
  kernel_rfl

def O_impl_AngleNumber_1 : Code → Post → List SV → World → Prop :=
  orc 13 (loopAt Try.f36 13) L_impl_AngleNumber_13_sp (fun Φ fr w => LOOP (U := (Value × Int × Value × Int × Int × Int × Int × Value × Int)) (S := (Int × Int)) ((fun v => (v.1, v.2.2.1, v.2.2.2.1, v.2.2.2.2.1, v.2.2.2.2.2.1, v.2.2.2.2.2.2.1, v.2.2.2.2.2.2.2.1, v.2.2.2.2.2.2.2.2.1, v.2.2.2.2.2.2.2.2.2.1)) (extT L_impl_AngleNumber_13_sp fr)) (L_impl_AngleNumber_13_b Φ ((fun v => (v.1, v.2.2.1, v.2.2.2.1, v.2.2.2.2.1, v.2.2.2.2.2.1, v.2.2.2.2.2.2.1, v.2.2.2.2.2.2.2.1, v.2.2.2.2.2.2.2.2.1, v.2.2.2.2.2.2.2.2.2.1)) (extT L_impl_AngleNumber_13_sp fr))) ((fun v => (v.2.1, v.2.2.2.2.2.2.2.2.2.2.1)) (extT L_impl_AngleNumber_13_sp fr)) w) (fun _ _ _ _ => False)

theorem O_impl_AngleNumber_1_ok : Sound Try.prog O_impl_AngleNumber_1 :=
  orc_ok (sound_none _) fun Φ fr w hs h => loop_ok (ty := ty) follows (sound_none _) L_impl_AngleNumber_13_sp (fun v => (v.1, v.2.2.1, v.2.2.2.1, v.2.2.2.2.1, v.2.2.2.2.2.1, v.2.2.2.2.2.2.1, v.2.2.2.2.2.2.2.1, v.2.2.2.2.2.2.2.2.1, v.2.2.2.2.2.2.2.2.2.1)) (fun v => (v.2.1, v.2.2.2.2.2.2.2.2.2.2.1)) (fun u s => (u.1, s.1, u.2.1, u.2.2.1, u.2.2.2.1, u.2.2.2.2.1, u.2.2.2.2.2.1, u.2.2.2.2.2.2.1, u.2.2.2.2.2.2.2.1, u.2.2.2.2.2.2.2.2, s.2, ())) (fun _ => rfl) L_impl_AngleNumber_13_ex L_impl_AngleNumber_13_rt (body := L_impl_AngleNumber_13_b Φ) (fun j u s w N hb => by
    have e := L_impl_AngleNumber_13_eq j u s N (doorOf Φ (.exit 4) L_impl_AngleNumber_13_e4).D (doorOf Φ .ret L_impl_AngleNumber_13_rt).D w
    exact Eq.mpr e hb) hs h

def B_impl_AngleNumber_9 (x1 : Value) (c6 : Int) (x16 : Int) (x17 : Int) (x20 : Int) (out5 : Int) (x21 : Int) (N : (Value × Int × Int × Int × Int) → (Int × Int) → World → Prop) (D2 : (Value × Int × Int × Int × Unit) → World → Prop) (w : World) : Prop :=
  (((decide (x21 < x20)) = true → (Fc Try.prog 85 #[x1, (.int .i64 x21)] w (.one .any) fun (x25_8 : Value) w_7 => (Fc Try.prog 85 #[x1, (.int .i64 c6)] w_7 (.one .any) fun (x27_10 : Value) w_9 => (QAll Try.prog (Builtin.len_ #[25] 3 #[x27_10]) (.int .i64) fun (x28_11 : Int) => (At (loopAt Try.f36 13) (loopAt Try.f36 13) (LOOP (U := (Value × Int × Value × Int × Int × Int × Int × Value × Int)) (S := (Int × Int)) ((x1 : Value), c6, (x25_8 : Value), x16, x17, x20, x21, (x27_10 : Value), x28_11) (fun N_19 s_20 w_21 => B_impl_AngleNumber_13 (x1 : Value) c6 (x25_8 : Value) x16 x17 x20 x21 (x27_10 : Value) x28_11 s_20.1 s_20.2 N_19 (fun (v_16 : (Value × Int × Int × Int × Int × Int × Int × Unit)) w_17 => ∀ _j_18 : Nat → Value, N ((v_16.1 : Value), v_16.2.2.1, v_16.2.2.2.1, v_16.2.2.2.2.1, v_16.2.2.2.2.2.1) (v_16.2.1, (IntKind.i64.wrap (v_16.2.2.2.2.2.2.1 + (1 : Int)))) w_17) w_21) (out5, (0 : Int)) w_9)))))) ∧ ((decide (x21 < x20)) = false → D2 ((x1 : Value), out5, x16, x17, ()) w))

abbrev L_impl_AngleNumber_9_e2 : List Slot := [.junk, .k .any, .junk, .junk, .junk, .k (.int .i64), .junk, .junk, .junk, .junk, .junk, .junk, .junk, .junk, .junk, .junk, .k (.int .i64), .k (.int .i64), .junk, .junk, .junk, .junk, .junk, .junk, .junk, .junk, .junk, .junk, .junk, .junk, .junk, .junk, .junk, .junk, .junk, .junk, .junk, .junk, .junk, .junk, .junk, .junk, .junk, .junk, .junk, .junk]

abbrev L_impl_AngleNumber_9_sp : List Slot := [.junk, .k .any, .junk, .junk, .junk, .k (.int .i64), .k (.int .i64), .junk, .junk, .junk, .junk, .junk, .junk, .junk, .junk, .junk, .k (.int .i64), .k (.int .i64), .junk, .junk, .k (.int .i64), .k (.int .i64), .junk, .junk, .junk, .junk, .junk, .junk, .junk, .junk, .junk, .junk, .junk, .junk, .junk, .junk, .junk, .junk, .junk, .junk, .junk, .junk, .junk, .junk, .junk, .junk]
abbrev L_impl_AngleNumber_9_ex : List (Nat × List Slot) := [(2, L_impl_AngleNumber_9_e2)]
abbrev L_impl_AngleNumber_9_rt : List Slot := [.junk, .junk, .junk, .junk, .junk, .junk, .junk, .junk, .junk, .junk, .junk, .junk, .junk, .junk, .junk, .junk, .junk, .junk, .junk, .junk, .junk, .junk, .junk, .junk, .junk, .junk, .junk, .junk, .junk, .junk, .junk, .junk, .junk, .junk, .junk, .junk, .junk, .junk, .junk, .junk, .junk, .junk, .junk, .junk, .junk, .junk]

def L_impl_AngleNumber_9_b (Φ : Post) (u : (Value × Int × Int × Int × Int)) (N : (Value × Int × Int × Int × Int) → (Int × Int) → World → Prop) (s : (Int × Int)) (w : World) : Prop :=
  B_impl_AngleNumber_9 u.1 u.2.1 u.2.2.1 u.2.2.2.1 u.2.2.2.2 s.1 s.2 N (fun v w => ∀ j : Nat → Value, Φ (.exit 2) (mkT j 0 L_impl_AngleNumber_9_e2 v) w) w

theorem L_impl_AngleNumber_9_eq (j : Nat → Value) (u : (Value × Int × Int × Int × Int)) (s : (Int × Int)) (N : (Value × Int × Int × Int × Int) → (Int × Int) → World → Prop) (D2 : (Value × Int × Int × Int × Unit) → World → Prop) (R : (Unit) → World → Prop) (w : World) :
    W Try.prog ty O_impl_AngleNumber_1 (loopAt Try.f36 9) (loopPost L_impl_AngleNumber_9_sp [(2, (⟨L_impl_AngleNumber_9_e2, D2⟩ : Door))] ⟨L_impl_AngleNumber_9_rt, R⟩ (fun v w => N ((fun v => (v.1, v.2.2.1, v.2.2.2.1, v.2.2.2.2.1, v.2.2.2.2.2.1)) v) ((fun v => (v.2.1, v.2.2.2.2.2.2.1)) v) w)) (mkT j 0 L_impl_AngleNumber_9_sp ((fun u s => (u.1, s.1, u.2.1, u.2.2.1, u.2.2.2.1, u.2.2.2.2, s.2, ())) u s)) w =
    B_impl_AngleNumber_9 u.1 u.2.1 u.2.2.1 u.2.2.2.1 u.2.2.2.2 s.1 s.2 N D2 w := by
  kernel_rfl

def O_impl_AngleNumber_2 : Code → Post → List SV → World → Prop :=
  orc 9 (loopAt Try.f36 9) L_impl_AngleNumber_9_sp (fun Φ fr w => LOOP (U := (Value × Int × Int × Int × Int)) (S := (Int × Int)) ((fun v => (v.1, v.2.2.1, v.2.2.2.1, v.2.2.2.2.1, v.2.2.2.2.2.1)) (extT L_impl_AngleNumber_9_sp fr)) (L_impl_AngleNumber_9_b Φ ((fun v => (v.1, v.2.2.1, v.2.2.2.1, v.2.2.2.2.1, v.2.2.2.2.2.1)) (extT L_impl_AngleNumber_9_sp fr))) ((fun v => (v.2.1, v.2.2.2.2.2.2.1)) (extT L_impl_AngleNumber_9_sp fr)) w) O_impl_AngleNumber_1

theorem O_impl_AngleNumber_2_ok : Sound Try.prog O_impl_AngleNumber_2 :=
  orc_ok O_impl_AngleNumber_1_ok fun Φ fr w hs h => loop_ok (ty := ty) follows O_impl_AngleNumber_1_ok L_impl_AngleNumber_9_sp (fun v => (v.1, v.2.2.1, v.2.2.2.1, v.2.2.2.2.1, v.2.2.2.2.2.1)) (fun v => (v.2.1, v.2.2.2.2.2.2.1)) (fun u s => (u.1, s.1, u.2.1, u.2.2.1, u.2.2.2.1, u.2.2.2.2, s.2, ())) (fun _ => rfl) L_impl_AngleNumber_9_ex L_impl_AngleNumber_9_rt (body := L_impl_AngleNumber_9_b Φ) (fun j u s w N hb => by
    have e := L_impl_AngleNumber_9_eq j u s N (doorOf Φ (.exit 2) L_impl_AngleNumber_9_e2).D (doorOf Φ .ret L_impl_AngleNumber_9_rt).D w
    exact Eq.mpr e hb) hs h

def B_impl_AngleNumber_6 (x1 : Value) (x16 : Int) (out5 : Int) (x17 : Int) (N : (Value × Int) → (Int × Int) → World → Prop) (D0 : (Int × Unit) → World → Prop) (w : World) : Prop :=
  (((decide (x17 < x16)) = true → (At (loopAt Try.f36 9) (loopAt Try.f36 9) (LOOP (U := (Value × Int × Int × Int × Int)) (S := (Int × Int)) ((x1 : Value), x17, x16, x17, x17) (fun N_25 s_26 w_27 => B_impl_AngleNumber_9 (x1 : Value) x17 x16 x17 x17 s_26.1 s_26.2 N_25 (fun (v_22 : (Value × Int × Int × Int × Unit)) w_23 => ∀ _j_24 : Nat → Value, N ((v_22.1 : Value), v_22.2.2.1) (v_22.2.1, (IntKind.i64.wrap (v_22.2.2.2.1 + (1 : Int)))) w_23) w_27) (out5, (0 : Int)) w))) ∧ ((decide (x17 < x16)) = false → D0 (out5, ()) w))

abbrev L_impl_AngleNumber_6_e0 : List Slot := [.junk, .junk, .junk, .junk, .junk, .k (.int .i64), .junk, .junk, .junk, .junk, .junk, .junk, .junk, .junk, .junk, .junk, .junk, .junk, .junk, .junk, .junk, .junk, .junk, .junk, .junk, .junk, .junk, .junk, .junk, .junk, .junk, .junk, .junk, .junk, .junk, .junk, .junk, .junk, .junk, .junk, .junk, .junk, .junk, .junk, .junk, .junk]

abbrev L_impl_AngleNumber_6_sp : List Slot := [.junk, .k .any, .junk, .junk, .junk, .k (.int .i64), .junk, .junk, .junk, .junk, .junk, .junk, .junk, .junk, .junk, .junk, .k (.int .i64), .k (.int .i64), .junk, .junk, .junk, .junk, .junk, .junk, .junk, .junk, .junk, .junk, .junk, .junk, .junk, .junk, .junk, .junk, .junk, .junk, .junk, .junk, .junk, .junk, .junk, .junk, .junk, .junk, .junk, .junk]
abbrev L_impl_AngleNumber_6_ex : List (Nat × List Slot) := [(0, L_impl_AngleNumber_6_e0)]
abbrev L_impl_AngleNumber_6_rt : List Slot := [.junk, .junk, .junk, .junk, .junk, .junk, .junk, .junk, .junk, .junk, .junk, .junk, .junk, .junk, .junk, .junk, .junk, .junk, .junk, .junk, .junk, .junk, .junk, .junk, .junk, .junk, .junk, .junk, .junk, .junk, .junk, .junk, .junk, .junk, .junk, .junk, .junk, .junk, .junk, .junk, .junk, .junk, .junk, .junk, .junk, .junk]

def L_impl_AngleNumber_6_b (Φ : Post) (u : (Value × Int)) (N : (Value × Int) → (Int × Int) → World → Prop) (s : (Int × Int)) (w : World) : Prop :=
  B_impl_AngleNumber_6 u.1 u.2 s.1 s.2 N (fun v w => ∀ j : Nat → Value, Φ (.exit 0) (mkT j 0 L_impl_AngleNumber_6_e0 v) w) w

theorem L_impl_AngleNumber_6_eq (j : Nat → Value) (u : (Value × Int)) (s : (Int × Int)) (N : (Value × Int) → (Int × Int) → World → Prop) (D0 : (Int × Unit) → World → Prop) (R : (Unit) → World → Prop) (w : World) :
    W Try.prog ty O_impl_AngleNumber_2 (loopAt Try.f36 6) (loopPost L_impl_AngleNumber_6_sp [(0, (⟨L_impl_AngleNumber_6_e0, D0⟩ : Door))] ⟨L_impl_AngleNumber_6_rt, R⟩ (fun v w => N ((fun v => (v.1, v.2.2.1)) v) ((fun v => (v.2.1, v.2.2.2.1)) v) w)) (mkT j 0 L_impl_AngleNumber_6_sp ((fun u s => (u.1, s.1, u.2, s.2, ())) u s)) w =
    B_impl_AngleNumber_6 u.1 u.2 s.1 s.2 N D0 w := by
  kernel_rfl

def O_impl_AngleNumber_3 : Code → Post → List SV → World → Prop :=
  orc 6 (loopAt Try.f36 6) L_impl_AngleNumber_6_sp (fun Φ fr w => LOOP (U := (Value × Int)) (S := (Int × Int)) ((fun v => (v.1, v.2.2.1)) (extT L_impl_AngleNumber_6_sp fr)) (L_impl_AngleNumber_6_b Φ ((fun v => (v.1, v.2.2.1)) (extT L_impl_AngleNumber_6_sp fr))) ((fun v => (v.2.1, v.2.2.2.1)) (extT L_impl_AngleNumber_6_sp fr)) w) O_impl_AngleNumber_2

theorem O_impl_AngleNumber_3_ok : Sound Try.prog O_impl_AngleNumber_3 :=
  orc_ok O_impl_AngleNumber_2_ok fun Φ fr w hs h => loop_ok (ty := ty) follows O_impl_AngleNumber_2_ok L_impl_AngleNumber_6_sp (fun v => (v.1, v.2.2.1)) (fun v => (v.2.1, v.2.2.2.1)) (fun u s => (u.1, s.1, u.2, s.2, ())) (fun _ => rfl) L_impl_AngleNumber_6_ex L_impl_AngleNumber_6_rt (body := L_impl_AngleNumber_6_b Φ) (fun j u s w N hb => by
    have e := L_impl_AngleNumber_6_eq j u s N (doorOf Φ (.exit 0) L_impl_AngleNumber_6_e0).D (doorOf Φ .ret L_impl_AngleNumber_6_rt).D w
    exact Eq.mpr e hb) hs h

def V_impl_AngleNumber (x0 : Value) (w : World) (K : (Int × Int) → World → Prop) : Prop :=
  (Pr Try.prog (Instr.box 28 x0) w (.one .any) fun (x1_2 : Value) w_1 => (Fc Try.prog 72 #[x1_2, (.func (.func 84) #[] #[])] w_1 (.one (.int .i64)) fun (x11_4 : Int) w_3 => (((x11_4 != (0 : Int)) = true → K ((0 : Int), x11_4) w_3) ∧ ((x11_4 != (0 : Int)) = false → (QAll Try.prog (Instr.fieldAt 28 x1_2 1) .any fun (x15_5 : Value) => (QSub Try.prog (Instr.loadAt 2 x15_5) w_3 (.int .i64) fun (x16_6 : Int) => (At (loopAt Try.f36 6) (loopAt Try.f36 6) (LOOP (U := (Value × Int)) (S := (Int × Int)) ((x1_2 : Value), x16_6) (fun N_31 s_32 w_33 => B_impl_AngleNumber_6 (x1_2 : Value) x16_6 s_32.1 s_32.2 N_31 (fun (v_28 : (Int × Unit)) w_29 => ∀ _j_30 : Nat → Value, K (v_28.1, (0 : Int)) w_29) w_33) ((0 : Int), (0 : Int)) w_3))))))))

theorem eq_impl_AngleNumber (x0 : Value) (w : World) (K : (Int × Int) → World → Prop) :
    W Try.prog ty O_impl_AngleNumber_3 (bodyOf Try.f36) (fnPost Try.prog Try.f36.results.toList (.two (.int .i64) (.int .i64)) K) (frame0 [x0] 46) w = V_impl_AngleNumber x0 w K := by
  kernel_rfl

theorem body_impl_AngleNumber : Try.f36.body = some (bodyOf Try.f36) := by kernel_rfl
theorem name_impl_AngleNumber : (Try.f36.name == "runtime.NumGoroutine") = false := by kernel_rfl

theorem walk_impl_AngleNumber (x0 : Value) {w : World} {K : (Int × Int) → World → Prop} (h : V_impl_AngleNumber x0 w K) : Fc Try.prog 36 #[x0] w (.two (.int .i64) (.int .i64)) K :=
  fn_ok follows O_impl_AngleNumber_3_ok Try.func36 name_impl_AngleNumber body_impl_AngleNumber Try.ntmps36 [x0] (Eq.mpr (eq_impl_AngleNumber x0 w K) h)

-- uses S9Bal
theorem c_impl_AngleNumber {c : Col} {w : World} {K : Int × Int → World → Prop} (hc : c.Ok)
    (hK : ∀ w', Below w.heap.size w w' → K ((angF c).1, (angF c).2) w') : Fc Try.prog F_impl_AngleNumber #[c.val] w (.two (.int .i64) (.int .i64)) K := by
  unfold angF at hK
  refine walk_impl_AngleNumber _ (col_box fun b w1 m1 hx => c_impl_Colouring_code true hc hx (fun _ w' K' hb' hk => cv rfl (c_impl_always (hk _ (Below.refl _ _)))) fun w2 hb2 => ?_)
  have q2 := m1.below.trans (hb2.mono m1.below.size)
  by_cases h : c.Is
  case neg =>
    rw [if_neg h] at hK ⊢
    exact ⟨fun _ => hK w2 q2, fun h => absurd (ne_f h) (by omega)⟩
  rw [if_pos h] at hK ⊢
  refine ⟨fun h => absurd rfl (ne_t h), fun _ => ?_⟩
  have n1 := h.2.1; have n0 := h.1; have k0 := h.2.2.1; have k4 := h.2.2.2.1
  have hx2 := hx.keep hb2
  rw [angN_eq] at hK
  have bp : ∀ a d m : Nat, m ≤ 17 → 0 ≤ sumN (fun p => dd c p a d) m ∧ sumN (fun p => dd c p a d) m ≤ 4913 := fun a d m hm => by
    have := sumN_bd (f := fun p => dd c p a d) (n := m) (M := 289) (fun i _ => dd_bd n1 i a d)
    omega
  have bd : ∀ a m : Nat, m ≤ 4 → 0 ≤ sumN (fun d => sumN (fun p => dd c p a d) c.n.toNat) m ∧ sumN (fun d => sumN (fun p => dd c p a d) c.n.toNat) m ≤ 19652 := fun a m hm => by
    have := sumN_bd (f := fun d => sumN (fun p => dd c p a d) c.n.toNat) (n := m) (M := 4913) (fun i _ => bp a i _ (by omega))
    omega
  have bc : ∀ m : Nat, m ≤ 4 → 0 ≤ sumN (fun a => sumN (fun d => sumN (fun p => dd c p a d) c.n.toNat) a) m ∧ sumN (fun a => sumN (fun d => sumN (fun p => dd c p a d) c.n.toNat) a) m ≤ 78608 := fun m hm => by
    have := sumN_bd (f := fun a => sumN (fun d => sumN (fun p => dd c p a d) c.n.toNat) a) (n := m) (M := 19652) (fun i hi => bd i i (by omega))
    omega
  refine col_k hx2 ?_
  refine lp (fun s w' => Below w2.heap.size w2 w' ∧ ∃ a : Nat, s.2 = a ∧ a ≤ c.k.toNat ∧ s.1 = sumN (fun a => sumN (fun d => sumN (fun p => dd c p a d) c.n.toNat) a) a) (fun s _ => (17 - s.2).toNat) ⟨Below.refl _ _, 0, rfl, by omega, rfl⟩ ?_
  rintro ⟨out, t⟩ w3 N ⟨q3, a, ha, hak, ho⟩ hN
  simp only at ha ho
  subst ha; subst ho
  unfold B_impl_AngleNumber_6
  dsimp only
  refine ⟨fun hlt => ?_, fun hge => ?_⟩
  · have hlt := dec_t hlt
    refine lp (fun s w' => Below w2.heap.size w2 w' ∧ ∃ d : Nat, s.2 = d ∧ d ≤ a ∧ s.1 = sumN (fun a => sumN (fun d => sumN (fun p => dd c p a d) c.n.toNat) a) a + sumN (fun d => sumN (fun p => dd c p a d) c.n.toNat) d) (fun s _ => (17 - s.2).toNat) ⟨q3, 0, rfl, by omega, by simp [sumN]⟩ ?_
    rintro ⟨out, t⟩ w4 N' ⟨q4, d, hd, hda, ho⟩ hN'
    simp only at hd ho
    subst hd; subst ho
    unfold B_impl_AngleNumber_9
    dsimp only
    refine ⟨fun hlt2 => ?_, fun hge2 => ?_⟩
    · have hlt2 := dec_t hlt2
      refine c_impl_Colouring_degrees hc (hx2.keep q4) (by omega) n1 fun u w5 b5 hb5 q5 o5 => ?_
      have q25 := q4.trans (q5.mono q4.size)
      refine c_impl_Colouring_degrees hc (hx2.keep q25) (by omega) n1 fun u' w6 b6 hb6 q6 o6 => ?_
      have q26 := q25.trans (q6.mono q25.size)
      have l5 := degL_len c d
      have l6 := degL_len c a
      have s5 := own_slI (o5.keep q6) (by omega)
      have s6 := own_slI o6 (by omega)
      refine lenI s6 ?_
      refine lp (fun s w' => w' = w6 ∧ ∃ p : Nat, s.2 = p ∧ p ≤ c.n.toNat ∧ s.1 = sumN (fun a => sumN (fun d => sumN (fun p => dd c p a d) c.n.toNat) a) a + sumN (fun d => sumN (fun p => dd c p a d) c.n.toNat) d + sumN (fun p => dd c p a d) p) (fun s _ => (17 - s.2).toNat) ⟨rfl, 0, rfl, by omega, by simp [sumN]⟩ ?_
      rintro ⟨out, t⟩ w7 N'' ⟨rfl, p, hp, hpn, ho⟩ hN''
      simp only at hp ho
      subst hp; subst ho
      unfold B_impl_AngleNumber_13
      dsimp only
      have B1 := bc a (by omega); have B2 := bd a d (by omega); have B3 := bp a d p (by omega)
      refine ⟨fun hlt3 => ?_, fun hge3 => ?_⟩
      · have hlt3 := dec_t hlt3
        rw [l6] at hlt3
        refine atI s6 (by omega) (by omega) (atI s5 (by omega) (by omega) ?_)
        rw [Int.toNat_natCast, degL_get _ _ (by omega), degL_get _ _ (by omega)]
        have hdd : (degN c p a : Int) * (degN c p d : Int) = dd c p a d := rfl
        have B4 := dd_bd n1 p a d
        have B5 := bp a d (p + 1) (by omega)
        rw [hdd, wrap_small (n := dd c p a d) (by omega) (by omega), wrap_small (n := (p : Int) + 1) (by omega) (by omega), wrap_small (by omega) (by omega)]
        refine hN'' _ _ ⟨rfl, p + 1, by simp only; omega, by omega, ?_⟩ (by simp only; omega)
        simp only [sumN]
        omega
      · have hge3 := dec_f hge3
        rw [l6] at hge3
        intro _
        have : p = c.n.toNat := by omega
        subst this
        rw [wrap_small (n := (d : Int) + 1) (by omega) (by omega)]
        refine hN' _ _ ⟨q26, d + 1, by simp only; omega, by omega, ?_⟩ (by simp only; omega)
        simp only [sumN]
        omega
    · have hge2 := dec_f hge2
      intro _
      have : d = a := by omega
      subst this
      rw [wrap_small (n := (d : Int) + 1) (by omega) (by omega)]
      refine hN _ _ ⟨q4, d + 1, by simp only; omega, by omega, ?_⟩ (by simp only; omega)
      simp only [sumN]
  · have hge := dec_f hge
    intro _
    have : a = c.k.toNat := by omega
    subst this
    exact hK w3 (q2.trans (q3.mono q2.size))

end Go.Proofs.Ytdkodhonaoecnaa
