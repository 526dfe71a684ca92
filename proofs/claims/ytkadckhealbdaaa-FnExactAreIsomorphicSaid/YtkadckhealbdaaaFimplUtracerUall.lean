/- The reading of impl_tracer_all, and its contract. No condition. -/
import Derived.Test.YtkadckhealbdaaaTy
import Derived.Test.YtkadckhealbdaaaS9IsoM
import Derived.Test.YtkadckhealbdaaaFimplUColouringUat
namespace Go.Proofs.Ytkadckhealbdaaa
open Go Go.RowKit Eng Mem
set_option linter.unusedVariables false
set_option maxRecDepth 100000
def B_impl_tracer_all_11 (t0 : Value) (p1 : Value) (with2 : Value) (i8 : Int) (j9 : Int) (x38 : Int) (x39 : Int) (x51 : Value) (x52 : Int) (fits10 : Bool) (x53 : Int) (N : (Value × Value × Value × Int × Int × Int × Int × Value × Int) → (Bool × Int) → World → Prop) (D2 : (Value × Value × Value × Int × Int × Bool × Int × Int × Unit) → World → Prop) (w : World) : Prop :=
  (((decide (x53 < x52)) = true → (QAll Try.prog (Instr.indexAt 31 x51 (.int .i64 x53)) .any fun (x56_20 : Value) => (QSub Try.prog (Instr.loadAt 2 x56_20) w (.int .i64) fun (x57_21 : Int) => (∀ w_22, Drew w w_22 → (((x57_21 == j9) = true → D2 ((t0 : Value), (p1 : Value), (with2 : Value), i8, j9, false, x38, x39, ()) w_22) ∧ ((x57_21 == j9) = false → (NilOk t0 ∧ (QAll Try.prog (Instr.fieldAt 123 t0 0) .any fun (x64_23 : Value) => (QSub Try.prog (Instr.loadAt 77 x64_23) w_22 .any fun (x65_24 : Value) => (NilOk t0 ∧ (QAll Try.prog (Instr.fieldAt 123 t0 2) .any fun (x68_25 : Value) => (QSub Try.prog (Instr.loadAt 31 x68_25) w_22 .any fun (x69_26 : Value) => (QAll Try.prog (Instr.indexAt 31 x69_26 (.int .i64 x53)) .any fun (x71_27 : Value) => (QSub Try.prog (Instr.loadAt 2 x71_27) w_22 (.int .i64) fun (x72_28 : Int) => (NilOk t0 ∧ (QAll Try.prog (Instr.fieldAt 123 t0 1) .any fun (x77_29 : Value) => (QSub Try.prog (Instr.loadAt 77 x77_29) w_22 .any fun (x78_30 : Value) => (Fc Try.prog 89 #[x65_24, (.int .i64 x72_28), (.int .i64 i8)] w_22 (.one (.int .i64)) fun (x74_32 : Int) w_31 => (Keeps w_22 w_31 ((Fc Try.prog 89 #[x78_30, (.int .i64 x57_21), (.int .i64 j9)] w_31 (.one (.int .i64)) fun (x81_34 : Int) w_33 => (Keeps w_22 w_33 ((((x74_32 != x81_34) = true → D2 ((t0 : Value), (p1 : Value), (with2 : Value), i8, j9, false, x38, x39, ()) w_33) ∧ ((x74_32 != x81_34) = false → N ((t0 : Value), (p1 : Value), (with2 : Value), i8, j9, x38, x39, (x51 : Value), x52) (fits10, (IntKind.i64.wrap (x53 + (1 : Int)))) w_33))))))))))))))))))))))))) ∧ ((decide (x53 < x52)) = false → D2 ((t0 : Value), (p1 : Value), (with2 : Value), i8, j9, fits10, x38, x39, ()) w))

abbrev L_impl_tracer_all_11_e2 : List Slot := [.k .any, .k .any, .k .any, .junk, .junk, .junk, .junk, .junk, .k (.int .i64), .k (.int .i64), .k .bool, .junk, .junk, .junk, .junk, .junk, .junk, .junk, .junk, .junk, .junk, .junk, .junk, .junk, .junk, .junk, .junk, .junk, .junk, .junk, .junk, .junk, .junk, .junk, .junk, .junk, .junk, .junk, .k (.int .i64), .k (.int .i64), .junk, .junk, .junk, .junk, .junk, .junk, .junk, .junk, .junk, .junk, .junk, .junk, .junk, .junk, .junk, .junk, .junk, .junk, .junk, .junk, .junk, .junk, .junk, .junk, .junk, .junk, .junk, .junk, .junk, .junk, .junk, .junk, .junk, .junk, .junk, .junk, .junk, .junk, .junk, .junk, .junk, .junk, .junk, .junk, .junk, .junk, .junk, .junk, .junk, .junk, .junk, .junk, .junk, .junk, .junk, .junk, .junk]

abbrev L_impl_tracer_all_11_sp : List Slot := [.k .any, .k .any, .k .any, .junk, .junk, .junk, .junk, .junk, .k (.int .i64), .k (.int .i64), .k .bool, .junk, .junk, .junk, .junk, .junk, .junk, .junk, .junk, .junk, .junk, .junk, .junk, .junk, .junk, .junk, .junk, .junk, .junk, .junk, .junk, .junk, .junk, .junk, .junk, .junk, .junk, .junk, .k (.int .i64), .k (.int .i64), .junk, .junk, .junk, .junk, .junk, .junk, .junk, .junk, .junk, .junk, .junk, .k .any, .k (.int .i64), .k (.int .i64), .junk, .junk, .junk, .junk, .junk, .junk, .junk, .junk, .junk, .junk, .junk, .junk, .junk, .junk, .junk, .junk, .junk, .junk, .junk, .junk, .junk, .junk, .junk, .junk, .junk, .junk, .junk, .junk, .junk, .junk, .junk, .junk, .junk, .junk, .junk, .junk, .junk, .junk, .junk, .junk, .junk, .junk, .junk]
abbrev L_impl_tracer_all_11_ex : List (Nat × List Slot) := [(2, L_impl_tracer_all_11_e2)]
abbrev L_impl_tracer_all_11_rt : List Slot := [.junk, .junk, .junk, .junk, .junk, .junk, .junk, .junk, .junk, .junk, .junk, .junk, .junk, .junk, .junk, .junk, .junk, .junk, .junk, .junk, .junk, .junk, .junk, .junk, .junk, .junk, .junk, .junk, .junk, .junk, .junk, .junk, .junk, .junk, .junk, .junk, .junk, .junk, .junk, .junk, .junk, .junk, .junk, .junk, .junk, .junk, .junk, .junk, .junk, .junk, .junk, .junk, .junk, .junk, .junk, .junk, .junk, .junk, .junk, .junk, .junk, .junk, .junk, .junk, .junk, .junk, .junk, .junk, .junk, .junk, .junk, .junk, .junk, .junk, .junk, .junk, .junk, .junk, .junk, .junk, .junk, .junk, .junk, .junk, .junk, .junk, .junk, .junk, .junk, .junk, .junk, .junk, .junk, .junk, .junk, .junk, .junk]

def L_impl_tracer_all_11_b (Φ : Post) (u : (Value × Value × Value × Int × Int × Int × Int × Value × Int)) (N : (Value × Value × Value × Int × Int × Int × Int × Value × Int) → (Bool × Int) → World → Prop) (s : (Bool × Int)) (w : World) : Prop :=
  B_impl_tracer_all_11 u.1 u.2.1 u.2.2.1 u.2.2.2.1 u.2.2.2.2.1 u.2.2.2.2.2.1 u.2.2.2.2.2.2.1 u.2.2.2.2.2.2.2.1 u.2.2.2.2.2.2.2.2 s.1 s.2 N (fun v w => ∀ j : Nat → Value, Φ (.exit 2) (mkT j 0 L_impl_tracer_all_11_e2 v) w) w

theorem L_impl_tracer_all_11_eq (j : Nat → Value) (u : (Value × Value × Value × Int × Int × Int × Int × Value × Int)) (s : (Bool × Int)) (N : (Value × Value × Value × Int × Int × Int × Int × Value × Int) → (Bool × Int) → World → Prop) (D2 : (Value × Value × Value × Int × Int × Bool × Int × Int × Unit) → World → Prop) (R : (Unit) → World → Prop) (w : World) :
    W Try.prog ty (fun _ _ _ _ => False) (loopAt Try.f121 11) (loopPost L_impl_tracer_all_11_sp [(2, (⟨L_impl_tracer_all_11_e2, D2⟩ : Door))] ⟨L_impl_tracer_all_11_rt, R⟩ (fun v w => N ((fun v => (v.1, v.2.1, v.2.2.1, v.2.2.2.1, v.2.2.2.2.1, v.2.2.2.2.2.2.1, v.2.2.2.2.2.2.2.1, v.2.2.2.2.2.2.2.2.1, v.2.2.2.2.2.2.2.2.2.1)) v) ((fun v => (v.2.2.2.2.2.1, v.2.2.2.2.2.2.2.2.2.2.1)) v) w)) (mkT j 0 L_impl_tracer_all_11_sp ((fun u s => (u.1, u.2.1, u.2.2.1, u.2.2.2.1, u.2.2.2.2.1, s.1, u.2.2.2.2.2.1, u.2.2.2.2.2.2.1, u.2.2.2.2.2.2.2.1, u.2.2.2.2.2.2.2.2, s.2, ())) u s)) w =
    B_impl_tracer_all_11 u.1 u.2.1 u.2.2.1 u.2.2.2.1 u.2.2.2.2.1 u.2.2.2.2.2.1 u.2.2.2.2.2.2.1 u.2.2.2.2.2.2.2.1 u.2.2.2.2.2.2.2.2 s.1 s.2 N D2 w := by
  kernel_rfl

def O_impl_tracer_all_1 : Code → Post → List SV → World → Prop :=
  orc 11 (loopAt Try.f121 11) L_impl_tracer_all_11_sp (fun Φ fr w => LOOP (U := (Value × Value × Value × Int × Int × Int × Int × Value × Int)) (S := (Bool × Int)) ((fun v => (v.1, v.2.1, v.2.2.1, v.2.2.2.1, v.2.2.2.2.1, v.2.2.2.2.2.2.1, v.2.2.2.2.2.2.2.1, v.2.2.2.2.2.2.2.2.1, v.2.2.2.2.2.2.2.2.2.1)) (extT L_impl_tracer_all_11_sp fr)) (L_impl_tracer_all_11_b Φ ((fun v => (v.1, v.2.1, v.2.2.1, v.2.2.2.1, v.2.2.2.2.1, v.2.2.2.2.2.2.1, v.2.2.2.2.2.2.2.1, v.2.2.2.2.2.2.2.2.1, v.2.2.2.2.2.2.2.2.2.1)) (extT L_impl_tracer_all_11_sp fr))) ((fun v => (v.2.2.2.2.2.1, v.2.2.2.2.2.2.2.2.2.2.1)) (extT L_impl_tracer_all_11_sp fr)) w) (fun _ _ _ _ => False)

theorem O_impl_tracer_all_1_ok : Sound Try.prog O_impl_tracer_all_1 :=
  orc_ok (sound_none _) fun Φ fr w hs h => loop_ok (ty := ty) follows (sound_none _) L_impl_tracer_all_11_sp (fun v => (v.1, v.2.1, v.2.2.1, v.2.2.2.1, v.2.2.2.2.1, v.2.2.2.2.2.2.1, v.2.2.2.2.2.2.2.1, v.2.2.2.2.2.2.2.2.1, v.2.2.2.2.2.2.2.2.2.1)) (fun v => (v.2.2.2.2.2.1, v.2.2.2.2.2.2.2.2.2.2.1)) (fun u s => (u.1, u.2.1, u.2.2.1, u.2.2.2.1, u.2.2.2.2.1, s.1, u.2.2.2.2.2.1, u.2.2.2.2.2.2.1, u.2.2.2.2.2.2.2.1, u.2.2.2.2.2.2.2.2, s.2, ())) (fun _ => rfl) L_impl_tracer_all_11_ex L_impl_tracer_all_11_rt (body := L_impl_tracer_all_11_b Φ) (fun j u s w N hb => by
    have e := L_impl_tracer_all_11_eq j u s N (doorOf Φ (.exit 2) L_impl_tracer_all_11_e2).D (doorOf Φ .ret L_impl_tracer_all_11_rt).D w
    exact Eq.mpr e hb) hs h

def B_impl_tracer_all_6 (t0 : Value) (p1 : Value) (with2 : Value) (i8 : Int) (x38 : Int) (x39 : Int) (N : (Value × Value × Value × Int × Int) → Int → World → Prop) (D0 : (Unit) → World → Prop) (R : (Bool × Unit) → World → Prop) (w : World) : Prop :=
  (((decide (x39 < x38)) = true → (NilOk t0 ∧ (QAll Try.prog (Instr.fieldAt 123 t0 3) .any fun (x46_15 : Value) => (QAll Try.prog (Instr.indexAt 121 x46_15 (.int .i64 i8)) .any fun (x47_16 : Value) => (QAll Try.prog (Instr.indexAt 120 x47_16 (.int .i64 x39)) .any fun (x48_17 : Value) => (QSub Try.prog (Instr.loadAt 4 x48_17) w .bool fun (x49_18 : Bool) => (((!x49_18) = true → N ((t0 : Value), (p1 : Value), (with2 : Value), i8, x38) (IntKind.i64.wrap (x39 + (1 : Int))) w) ∧ ((!x49_18) = false → (QAll Try.prog (Builtin.len_ #[31] 3 #[p1]) (.int .i64) fun (x52_19 : Int) => (At (loopAt Try.f121 11) (loopAt Try.f121 11) (LOOP (U := (Value × Value × Value × Int × Int × Int × Int × Value × Int)) (S := (Bool × Int)) ((t0 : Value), (p1 : Value), (with2 : Value), i8, x39, x38, x39, (p1 : Value), x52_19) (fun N_44 s_45 w_46 => B_impl_tracer_all_11 (t0 : Value) (p1 : Value) (with2 : Value) i8 x39 x38 x39 (p1 : Value) x52_19 s_45.1 s_45.2 N_44 (fun (v_35 : (Value × Value × Value × Int × Int × Bool × Int × Int × Unit)) w_36 => ∀ _j_37 : Nat → Value, ((v_35.2.2.2.2.2.1 = true → (Pr Try.prog (Instr.buildSlice 31 1 #[(0, (.int .i64 v_35.2.2.2.2.1))]) w_36 (.one .any) fun (x90_39 : Value) w_38 => (Pr Try.prog (Builtin.append_ #[31, 31] 31 #[v_35.2.1, x90_39]) w_38 (.one .any) fun (x91_41 : Value) w_40 => (Fc Try.prog 121 #[v_35.1, x91_41, v_35.2.2.1] w_40 (.one .bool) fun (x93_43 : Bool) w_42 => (((!x93_43) = true → R (false, ()) w_42) ∧ ((!x93_43) = false → N ((v_35.1 : Value), (v_35.2.1 : Value), (v_35.2.2.1 : Value), v_35.2.2.2.1, v_35.2.2.2.2.2.2.1) (IntKind.i64.wrap (v_35.2.2.2.2.2.2.2.1 + (1 : Int))) w_42)))))) ∧ (v_35.2.2.2.2.2.1 = false → N ((v_35.1 : Value), (v_35.2.1 : Value), (v_35.2.2.1 : Value), v_35.2.2.2.1, v_35.2.2.2.2.2.2.1) (IntKind.i64.wrap (v_35.2.2.2.2.2.2.2.1 + (1 : Int))) w_36))) w_46) (true, (0 : Int)) w))))))))))) ∧ ((decide (x39 < x38)) = false → D0 () w))

abbrev L_impl_tracer_all_6_e0 : List Slot := [.junk, .junk, .junk, .junk, .junk, .junk, .junk, .junk, .junk, .junk, .junk, .junk, .junk, .junk, .junk, .junk, .junk, .junk, .junk, .junk, .junk, .junk, .junk, .junk, .junk, .junk, .junk, .junk, .junk, .junk, .junk, .junk, .junk, .junk, .junk, .junk, .junk, .junk, .junk, .junk, .junk, .junk, .junk, .junk, .junk, .junk, .junk, .junk, .junk, .junk, .junk, .junk, .junk, .junk, .junk, .junk, .junk, .junk, .junk, .junk, .junk, .junk, .junk, .junk, .junk, .junk, .junk, .junk, .junk, .junk, .junk, .junk, .junk, .junk, .junk, .junk, .junk, .junk, .junk, .junk, .junk, .junk, .junk, .junk, .junk, .junk, .junk, .junk, .junk, .junk, .junk, .junk, .junk, .junk, .junk, .junk, .junk]

abbrev L_impl_tracer_all_6_sp : List Slot := [.k .any, .k .any, .k .any, .junk, .junk, .junk, .junk, .junk, .k (.int .i64), .junk, .junk, .junk, .junk, .junk, .junk, .junk, .junk, .junk, .junk, .junk, .junk, .junk, .junk, .junk, .junk, .junk, .junk, .junk, .junk, .junk, .junk, .junk, .junk, .junk, .junk, .junk, .junk, .junk, .k (.int .i64), .k (.int .i64), .junk, .junk, .junk, .junk, .junk, .junk, .junk, .junk, .junk, .junk, .junk, .junk, .junk, .junk, .junk, .junk, .junk, .junk, .junk, .junk, .junk, .junk, .junk, .junk, .junk, .junk, .junk, .junk, .junk, .junk, .junk, .junk, .junk, .junk, .junk, .junk, .junk, .junk, .junk, .junk, .junk, .junk, .junk, .junk, .junk, .junk, .junk, .junk, .junk, .junk, .junk, .junk, .junk, .junk, .junk, .junk, .junk]
abbrev L_impl_tracer_all_6_ex : List (Nat × List Slot) := [(0, L_impl_tracer_all_6_e0)]
abbrev L_impl_tracer_all_6_rt : List Slot := [.junk, .junk, .junk, .junk, .junk, .junk, .k .bool, .junk, .junk, .junk, .junk, .junk, .junk, .junk, .junk, .junk, .junk, .junk, .junk, .junk, .junk, .junk, .junk, .junk, .junk, .junk, .junk, .junk, .junk, .junk, .junk, .junk, .junk, .junk, .junk, .junk, .junk, .junk, .junk, .junk, .junk, .junk, .junk, .junk, .junk, .junk, .junk, .junk, .junk, .junk, .junk, .junk, .junk, .junk, .junk, .junk, .junk, .junk, .junk, .junk, .junk, .junk, .junk, .junk, .junk, .junk, .junk, .junk, .junk, .junk, .junk, .junk, .junk, .junk, .junk, .junk, .junk, .junk, .junk, .junk, .junk, .junk, .junk, .junk, .junk, .junk, .junk, .junk, .junk, .junk, .junk, .junk, .junk, .junk, .junk, .junk, .junk]

def L_impl_tracer_all_6_b (Φ : Post) (u : (Value × Value × Value × Int × Int)) (N : (Value × Value × Value × Int × Int) → Int → World → Prop) (s : Int) (w : World) : Prop :=
  B_impl_tracer_all_6 u.1 u.2.1 u.2.2.1 u.2.2.2.1 u.2.2.2.2 s N (fun v w => ∀ j : Nat → Value, Φ (.exit 0) (mkT j 0 L_impl_tracer_all_6_e0 v) w) (fun v w => ∀ j : Nat → Value, Φ .ret (mkT j 0 L_impl_tracer_all_6_rt v) w) w

theorem L_impl_tracer_all_6_eq (j : Nat → Value) (u : (Value × Value × Value × Int × Int)) (s : Int) (N : (Value × Value × Value × Int × Int) → Int → World → Prop) (D0 : (Unit) → World → Prop) (R : (Bool × Unit) → World → Prop) (w : World) :
    W Try.prog ty O_impl_tracer_all_1 (loopAt Try.f121 6) (loopPost L_impl_tracer_all_6_sp [(0, (⟨L_impl_tracer_all_6_e0, D0⟩ : Door))] ⟨L_impl_tracer_all_6_rt, R⟩ (fun v w => N ((fun v => (v.1, v.2.1, v.2.2.1, v.2.2.2.1, v.2.2.2.2.1)) v) ((fun v => v.2.2.2.2.2.1) v) w)) (mkT j 0 L_impl_tracer_all_6_sp ((fun u s => (u.1, u.2.1, u.2.2.1, u.2.2.2.1, u.2.2.2.2, s, ())) u s)) w =
    B_impl_tracer_all_6 u.1 u.2.1 u.2.2.1 u.2.2.2.1 u.2.2.2.2 s N D0 R w := by
  kernel_rfl

def O_impl_tracer_all_2 : Code → Post → List SV → World → Prop :=
  orc 6 (loopAt Try.f121 6) L_impl_tracer_all_6_sp (fun Φ fr w => LOOP (U := (Value × Value × Value × Int × Int)) (S := Int) ((fun v => (v.1, v.2.1, v.2.2.1, v.2.2.2.1, v.2.2.2.2.1)) (extT L_impl_tracer_all_6_sp fr)) (L_impl_tracer_all_6_b Φ ((fun v => (v.1, v.2.1, v.2.2.1, v.2.2.2.1, v.2.2.2.2.1)) (extT L_impl_tracer_all_6_sp fr))) ((fun v => v.2.2.2.2.2.1) (extT L_impl_tracer_all_6_sp fr)) w) O_impl_tracer_all_1

theorem O_impl_tracer_all_2_ok : Sound Try.prog O_impl_tracer_all_2 :=
  orc_ok O_impl_tracer_all_1_ok fun Φ fr w hs h => loop_ok (ty := ty) follows O_impl_tracer_all_1_ok L_impl_tracer_all_6_sp (fun v => (v.1, v.2.1, v.2.2.1, v.2.2.2.1, v.2.2.2.2.1)) (fun v => v.2.2.2.2.2.1) (fun u s => (u.1, u.2.1, u.2.2.1, u.2.2.2.1, u.2.2.2.2, s, ())) (fun _ => rfl) L_impl_tracer_all_6_ex L_impl_tracer_all_6_rt (body := L_impl_tracer_all_6_b Φ) (fun j u s w N hb => by
    have e := L_impl_tracer_all_6_eq j u s N (doorOf Φ (.exit 0) L_impl_tracer_all_6_e0).D (doorOf Φ .ret L_impl_tracer_all_6_rt).D w
    exact Eq.mpr e hb) hs h

def V_impl_tracer_all (t0 : Value) (p1 : Value) (with2 : Value) (w : World) (K : Bool → World → Prop) : Prop :=
  (QAll Try.prog (Builtin.len_ #[31] 3 #[p1]) (.int .i64) fun (x14_1 : Int) => (NilOk t0 ∧ (QAll Try.prog (Instr.fieldAt 123 t0 2) .any fun (x18_2 : Value) => (QSub Try.prog (Instr.loadAt 31 x18_2) w .any fun (x19_3 : Value) => (QAll Try.prog (Builtin.len_ #[31] 3 #[x19_3]) (.int .i64) fun (x20_4 : Int) => (((x14_1 == x20_4) = true → (callV Try.prog with2 #[p1] w (.one .bool) fun (x24_6 : Bool) w_5 => K x24_6 w_5)) ∧ ((x14_1 == x20_4) = false → (NilOk t0 ∧ (QAll Try.prog (Instr.fieldAt 123 t0 2) .any fun (x27_7 : Value) => (QSub Try.prog (Instr.loadAt 31 x27_7) w .any fun (x28_8 : Value) => (QAll Try.prog (Instr.indexAt 31 x28_8 (.int .i64 x14_1)) .any fun (x30_9 : Value) => (QSub Try.prog (Instr.loadAt 2 x30_9) w (.int .i64) fun (x31_10 : Int) => (NilOk t0 ∧ (QAll Try.prog (Instr.fieldAt 123 t0 1) .any fun (x34_11 : Value) => (QSub Try.prog (Instr.loadAt 77 x34_11) w .any fun (x35_12 : Value) => (NilOk x35_12 ∧ (QAll Try.prog (Instr.fieldAt 25 x35_12 0) .any fun (x37_13 : Value) => (QSub Try.prog (Instr.loadAt 2 x37_13) w (.int .i64) fun (x38_14 : Int) => (At (loopAt Try.f121 6) (loopAt Try.f121 6) (LOOP (U := (Value × Value × Value × Int × Int)) (S := Int) ((t0 : Value), (p1 : Value), (with2 : Value), x31_10, x38_14) (fun N_53 s_54 w_55 => B_impl_tracer_all_6 (t0 : Value) (p1 : Value) (with2 : Value) x31_10 x38_14 s_54 N_53 (fun (v_47 : (Unit)) w_48 => ∀ _j_49 : Nat → Value, K true w_48) (fun (v_50 : (Bool × Unit)) w_51 => ∀ _j_52 : Nat → Value, K v_50.1 w_51) w_55) (0 : Int) w))))))))))))))))))))

theorem eq_impl_tracer_all (t0 : Value) (p1 : Value) (with2 : Value) (w : World) (K : Bool → World → Prop) :
    W Try.prog ty O_impl_tracer_all_2 (bodyOf Try.f121) (fnPost Try.prog Try.f121.results.toList (.one .bool) K) (frame0 [t0, p1, with2] 97) w = V_impl_tracer_all t0 p1 with2 w K := by
  kernel_rfl

theorem body_impl_tracer_all : Try.f121.body = some (bodyOf Try.f121) := by kernel_rfl
theorem name_impl_tracer_all : (Try.f121.name == "runtime.NumGoroutine") = false := by kernel_rfl

theorem walk_impl_tracer_all (t0 : Value) (p1 : Value) (with2 : Value) {w : World} {K : Bool → World → Prop} (h : V_impl_tracer_all t0 p1 with2 w K) : Fc Try.prog 121 #[t0, p1, with2] w (.one .bool) K :=
  fn_ok follows O_impl_tracer_all_2_ok Try.func121 name_impl_tracer_all body_impl_tracer_all Try.ntmps121 [t0, p1, with2] (Eq.mpr (eq_impl_tracer_all t0 p1 with2 w K) h)

-- uses S9IsoM
theorem c_impl_tracer_all {b bp : Nat} {px py po f : Value} {x y : Col} {S : Nat → Nat → Bool} (J : World → Prop) (Q : List Int → World → Prop) (hx : x.Ok) (hy : y.Ok) (n0 : 1 ≤ x.n) (n1 : x.n ≤ 17) (hxy : x.n = y.n)
    (hS : ∀ i j : Nat, i < x.n.toNat → j < x.n.toNat → S i j = sameD x y i j)
    (hJ : ∀ w, J w → Blk w b (trV px py po S) tTr ∧ ColAt w px x ∧ ColAt w py y ∧ SlI w po (sel (fun _ => true) x.n.toNat))
    (hst : ∀ w w', J w → Mod [bp] w w' → J w')
    (hcall : ∀ (l : List Int) (w' : World) (K' : Bool → World → Prop), l.length = x.n.toNat → J w' → OwnC w' bp l → (∀ w'', Q l w'' → K' false w'') → callV Try.prog f #[vC bp l] w' (.one .bool) K') :
    ∀ (fuel : Nat) (p : List Int) (w : World) (K : Bool → World → Prop), p.length + fuel = x.n.toNat → J w → OwnC w bp p → (∀ e ∈ p, 0 ≤ e ∧ e < x.n) →
      (isoF x y fuel p = none → ∀ w', J w' → Mod [bp] w w' → OwnC w' bp p → K true w') → (∀ l, isoF x y fuel p = some l → ∀ w', Q l w' → K false w') →
      Fc Try.prog F_impl_tracer_all #[ptr b 0, vC bp p, f] w (.one .bool) K
  | fuel, p, w, K, hlen, hj, hp, hpe, hn, hs => by
    obtain ⟨hb, ax, ay, hord⟩ := hJ w hj
    have nn : NilOk (ptr b 0) := .inl ⟨_, rfl⟩
    have cord : ∀ {w'}, Blk w' b (trV px py po S) tTr → Cell w' (ptr b 2) po := fun h => by
      have := (blk_row h).get 2 (v := po) rfl
      simpa [padd, add_none] using this
    have cx : ∀ {w'}, Blk w' b (trV px py po S) tTr → Cell w' (ptr b 0) px := fun h => by
      have := (blk_row h).get 0 (v := px) rfl
      simpa [padd, add_none] using this
    have cy : ∀ {w'}, Blk w' b (trV px py po S) tTr → Cell w' (ptr b 1) py := fun h => by
      have := (blk_row h).get 1 (v := py) rfl
      simpa [padd, add_none] using this
    have hsl := selT_len x.n.toNat
    refine walk_impl_tracer_all _ _ _ (lenI hp.sl ⟨nn, fldp tr2 (ld (k := .any) y1SI (cord hb) (lenI hord ?_))⟩)
    rw [hsl]
    refine ⟨fun he => ?_, fun hne => ?_⟩
    · have he := eq_t he
      have hf : fuel = 0 := by omega
      subst hf
      exact hcall p w _ (by omega) hj hp fun w'' hq => hs p rfl w'' hq
    have hne := eq_f hne
    match fuel, hlen, hn, hs with
    | 0, hlen, _, _ => omega
    | fuel + 1, hlen, hn, hs =>
    have hkn : p.length < x.n.toNat := by omega
    refine ⟨nn, fldp tr2 (ld (k := .any) y1SI (cord hb) (atI hord (by omega) (by rw [hsl]; omega) ⟨nn, fldp tr1 (ld (k := .any) y1PC (cy hb) ⟨ay.nonnil, col_n ay ?_⟩)⟩))⟩
    rw [Int.toNat_natCast, selT_get hkn, ← hxy]
    rw [isoF_succ] at hn hs
    refine lp (fun s w' => ∃ j : Nat, s = j ∧ j ≤ x.n.toNat ∧ J w' ∧ Mod [bp] w w' ∧ OwnC w' bp p ∧ isoR x y fuel p j = isoR x y fuel p 0) (fun s _ => (17 - s).toNat) ⟨0, rfl, by omega, hj, Mod.refl _ _, hp, rfl⟩ ?_
    rintro t w2 N ⟨j, hjj, hjn, hj2, m2, hp2, hR⟩ hN
    subst hjj
    unfold B_impl_tracer_all_6
    obtain ⟨hb2, ax2, ay2, hord2⟩ := hJ w2 hj2
    refine ⟨fun hlt => ⟨nn, fldp tr3 (ixRq yR289 (by omega) (by omega) (ixRq yR17 (by omega) (by have := dec_t hlt; omega) ?_))⟩, fun hge => ?_⟩
    · have hlt := dec_t hlt
      have next : ∀ w', J w' → Mod [bp] w w' → OwnC w' bp p → isoR x y fuel p (j + 1) = isoR x y fuel p 0 → N (ptr b 0, vC bp p, f, (p.length : Int), x.n) (IntKind.i64.wrap ((j : Int) + 1)) w' := fun w' h1 h2 h3 h4 => by
        rw [wrap_small (by omega) (by omega)]
        exact hN _ _ ⟨j + 1, by omega, by omega, h1, h2, h3, h4⟩ (by omega)
      have hcell : Cell w2 (ptr b (0 + 3 + (p.length : Int).toNat * 17 + (j : Int).toNat * 1)) (.bool (S p.length j)) := by
        have := (blk_row hb2).get _ (trV_get px py po S (i := p.length) (j := j) (by omega) (by omega))
        simpa [padd, add_none] using this
      refine ld (k := .bool) yb hcell ⟨fun hno => ?_, fun hyes => ?_⟩
      · have hno := not_t hno
        rw [hS _ _ hkn (by omega)] at hno
        exact next w2 hj2 m2 hp2 (by rw [← hR]; exact (isoR_skip (by omega) (fun h => by rw [hno] at h; cases h.1)).symm)
      have hyes := not_f hyes
      rw [hS _ _ hkn (by omega)] at hyes
      refine lenI hp2.sl ?_
      refine lp (fun s w' => s.1 = true ∧ Below w2.heap.size w2 w' ∧ ∃ m : Nat, s.2 = m ∧ m ≤ p.length ∧ ∀ a : Nat, a < m → p.getD a 0 ≠ j ∧ colAt x a p.length = colAt y (p.getD a 0) j) (fun s _ => (17 - s.2).toNat) ⟨rfl, Below.refl _ _, 0, rfl, by omega, fun a h => absurd h (by omega)⟩ ?_
      rintro ⟨fits, t⟩ w3 N' ⟨hfit, q3, m, hm, hmp, hall⟩ hN'
      simp only at hfit hm
      subst hm; subst hfit
      unfold B_impl_tracer_all_11
      dsimp only
      have j3 : J w3 := hst _ _ hj2 (mod_of_below q3 _)
      have m3 : Mod [bp] w w3 := m2.trans (mod_of_below q3 _)
      have p3 := hp2.keep q3
      refine ⟨fun hlt2 => ?_, fun hge2 => ?_⟩
      · have hlt2 := dec_t hlt2
        have hmem : p.getD m 0 ∈ p := by
          have : m < p.length := by omega
          have e : p.getD m 0 = p[m] := by simp [List.getD, this]
          rw [e]; exact List.getElem_mem this
        have hto := hpe _ hmem
        have hbad : ¬ (p.getD m 0 ≠ j ∧ colAt x m p.length = colAt y (p.getD m 0) j) → ¬ (sameD x y p.length j = true ∧ fitsD x y p j = true) := fun hb h => hb (by
          have := h.2
          unfold fitsD at this
          exact of_decide_eq_true this m (by omega))
        refine atI p3.sl (by omega) hlt2 ?_
        rw [Int.toNat_natCast]
        intro w4 hd4
        have q4 := q3.trans (hd4.below w2.heap.size)
        have j4 : J w4 := hst _ _ hj2 (mod_of_below q4 _)
        have m4 : Mod [bp] w w4 := m2.trans (mod_of_below q4 _)
        have p4 := hp2.keep q4
        obtain ⟨hb4, ax4, ay4, hord4⟩ := hJ w4 j4
        refine ⟨fun he => ?_, fun hne2 => ?_⟩
        · have he := eq_t he
          intro _
          exact ⟨fun h => absurd h (by simp), fun _ => next w4 j4 m4 p4 (by rw [← hR]; exact (isoR_skip (by omega) (hbad fun h => h.1 he)).symm)⟩
        · have hne2 := eq_f hne2
          refine ⟨nn, fldp tr0 (ld (k := .any) y1PC (cx hb4) ⟨nn, fldp tr2 (ld (k := .any) y1SI (cord hb4) (atI hord4 (by omega) (by rw [hsl]; omega) ⟨nn, fldp tr1 (ld (k := .any) y1PC (cy hb4) ?_)⟩))⟩)⟩
          rw [Int.toNat_natCast, selT_get (by omega)]
          refine c_impl_Colouring_at hx ax4 (by omega) (by omega) (by omega) (by omega) (by omega) fun w5 q5 => ⟨q5, c_impl_Colouring_at hy (ay4.keep q5) hto.1 (by omega) (by omega) (by omega) hne2 fun w6 q6 => ?_⟩
          have q56 := q5.trans (q6.mono q5.size)
          have q26 := q4.trans (q56.mono q4.size)
          refine ⟨q56, fun hc => ?_, fun hc => ?_⟩
          · have hc := ne_t hc
            intro _
            exact ⟨fun h => absurd h (by simp), fun _ => next w6 (hst _ _ hj2 (mod_of_below q26 _)) (m2.trans (mod_of_below q26 _)) (hp2.keep q26) (by rw [← hR]; exact (isoR_skip (by omega) (hbad fun h => hc h.2)).symm)⟩
          · have hc := ne_f hc
            rw [wrap_small (by omega) (by omega)]
            refine hN' _ _ ⟨rfl, q26, m + 1, by simp only; omega, by omega, fun a ha => ?_⟩ (by simp only; omega)
            by_cases ham : a < m
            · exact hall a ham
            · have : a = m := by omega
              subst this
              exact ⟨hne2, hc⟩
      · have hge2 := dec_f hge2
        have : m = p.length := by omega
        subst this
        intro _
        refine ⟨fun _ => ?_, fun h => absurd h (by simp)⟩
        have hfits : fitsD x y p j = true := by unfold fitsD; exact decide_eq_true hall
        have hgo := isoR_go (f := fuel) (by omega) hyes hfits
        rw [hR] at hgo
        refine appC p3 (by omega) fun w4 m4 p4 => ?_
        have j4 := hst _ _ j3 m4
        refine c_impl_tracer_all J Q hx hy n0 n1 hxy hS hJ hst hcall fuel (p ++ [(j : Int)]) w4 _ (by simp; omega) j4 p4 (fun e he => by
          rcases List.mem_append.1 he with he | he
          · exact hpe e he
          · simp at he; omega) (fun hnone w5 j5 m5 p5 => ?_) (fun l hsome w5 hq => ?_)
        · refine ⟨fun h => absurd h (by simp), fun _ => ?_⟩
          rw [hnone] at hgo
          exact next w5 j5 ((m3.trans m4).trans m5) p5.pre hgo.symm
        · refine ⟨fun _ => ?_, fun h => absurd h (by simp)⟩
          rw [hsome] at hgo
          intro _
          exact hs l hgo w5 hq
    · have hge := dec_f hge
      have : j = x.n.toNat := by omega
      subst this
      intro _
      refine hn ?_ w2 hj2 m2 hp2
      rw [← hR, hxy, isoR_end]

end Go.Proofs.Ytkadckhealbdaaa
