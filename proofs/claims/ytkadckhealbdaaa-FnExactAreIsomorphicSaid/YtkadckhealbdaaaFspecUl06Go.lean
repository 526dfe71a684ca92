/- The reading of spec_l06Go, and its contract. No condition. -/
import Derived.Test.YtkadckhealbdaaaTy
import Derived.Test.YtkadckhealbdaaaS9IsoS
import Derived.Test.YtkadckhealbdaaaFspecUl01At
import Derived.Test.YtkadckhealbdaaaFspecUl01Own
namespace Go.Proofs.Ytkadckhealbdaaa
open Go Go.RowKit Eng Mem
set_option linter.unusedVariables false
set_option maxRecDepth 100000
def B_spec_l06Go_11 (s0 : Value) (list1 : Value) (used2 : Int) (p6 : Int) (image7 : Int) (fits8 : Bool) (q9 : Int) (N : (Value × Value × Int × Int × Int) → (Bool × Int) → World → Prop) (D2 : (Value × Value × Int × Int × Int × Bool × Unit) → World → Prop) (w : World) : Prop :=
  (((decide (q9 < p6)) = true → ((fits8 = true → (∀ w_40, Drew w w_40 → (NilOk s0 ∧ (QAll Try.prog (Instr.fieldAt 73 s0 0) .any fun (x89_41 : Value) => (QSub Try.prog (Instr.loadAt 25 x89_41) w_40 .any fun (x90_42 : Value) => (NilOk s0 ∧ (QAll Try.prog (Instr.fieldAt 73 s0 1) .any fun (x96_43 : Value) => (QSub Try.prog (Instr.loadAt 25 x96_43) w_40 .any fun (x97_44 : Value) => (QAll Try.prog (Instr.indexAt 31 list1 (.int .i64 q9)) .any fun (x100_45 : Value) => (QSub Try.prog (Instr.loadAt 2 x100_45) w_40 (.int .i64) fun (x101_46 : Int) => (Fc Try.prog 118 #[x90_42, (.int .i64 q9), (.int .i64 p6)] w_40 (.one (.int .i64)) fun (x93_48 : Int) w_47 => (Keeps w_40 w_47 ((Fc Try.prog 118 #[x97_44, (.int .i64 x101_46), (.int .i64 image7)] w_47 (.one (.int .i64)) fun (x103_50 : Int) w_49 => (Keeps w_40 w_49 (N ((s0 : Value), (list1 : Value), used2, p6, image7) ((x93_48 == x103_50), (IntKind.i64.wrap (q9 + (1 : Int)))) w_49)))))))))))))))) ∧ (fits8 = false → D2 ((s0 : Value), (list1 : Value), used2, p6, image7, fits8, ()) w))) ∧ ((decide (q9 < p6)) = false → D2 ((s0 : Value), (list1 : Value), used2, p6, image7, fits8, ()) w))

abbrev L_spec_l06Go_11_e2 : List Slot := [.k .any, .k .any, .k (.int .i64), .junk, .junk, .junk, .k (.int .i64), .k (.int .i64), .k .bool, .junk, .junk, .junk, .junk, .junk, .junk, .junk, .junk, .junk, .junk, .junk, .junk, .junk, .junk, .junk, .junk, .junk, .junk, .junk, .junk, .junk, .junk, .junk, .junk, .junk, .junk, .junk, .junk, .junk, .junk, .junk, .junk, .junk, .junk, .junk, .junk, .junk, .junk, .junk, .junk, .junk, .junk, .junk, .junk, .junk, .junk, .junk, .junk, .junk, .junk, .junk, .junk, .junk, .junk, .junk, .junk, .junk, .junk, .junk, .junk, .junk, .junk, .junk, .junk, .junk, .junk, .junk, .junk, .junk, .junk, .junk, .junk, .junk, .junk, .junk, .junk, .junk, .junk, .junk, .junk, .junk, .junk, .junk, .junk, .junk, .junk, .junk, .junk, .junk, .junk, .junk, .junk, .junk, .junk, .junk, .junk, .junk, .junk, .junk, .junk, .junk, .junk, .junk, .junk, .junk, .junk, .junk, .junk, .junk]

abbrev L_spec_l06Go_11_sp : List Slot := [.k .any, .k .any, .k (.int .i64), .junk, .junk, .junk, .k (.int .i64), .k (.int .i64), .k .bool, .k (.int .i64), .junk, .junk, .junk, .junk, .junk, .junk, .junk, .junk, .junk, .junk, .junk, .junk, .junk, .junk, .junk, .junk, .junk, .junk, .junk, .junk, .junk, .junk, .junk, .junk, .junk, .junk, .junk, .junk, .junk, .junk, .junk, .junk, .junk, .junk, .junk, .junk, .junk, .junk, .junk, .junk, .junk, .junk, .junk, .junk, .junk, .junk, .junk, .junk, .junk, .junk, .junk, .junk, .junk, .junk, .junk, .junk, .junk, .junk, .junk, .junk, .junk, .junk, .junk, .junk, .junk, .junk, .junk, .junk, .junk, .junk, .junk, .junk, .junk, .junk, .junk, .junk, .junk, .junk, .junk, .junk, .junk, .junk, .junk, .junk, .junk, .junk, .junk, .junk, .junk, .junk, .junk, .junk, .junk, .junk, .junk, .junk, .junk, .junk, .junk, .junk, .junk, .junk, .junk, .junk, .junk, .junk, .junk, .junk]
abbrev L_spec_l06Go_11_ex : List (Nat × List Slot) := [(2, L_spec_l06Go_11_e2)]
abbrev L_spec_l06Go_11_rt : List Slot := [.junk, .junk, .junk, .junk, .junk, .junk, .junk, .junk, .junk, .junk, .junk, .junk, .junk, .junk, .junk, .junk, .junk, .junk, .junk, .junk, .junk, .junk, .junk, .junk, .junk, .junk, .junk, .junk, .junk, .junk, .junk, .junk, .junk, .junk, .junk, .junk, .junk, .junk, .junk, .junk, .junk, .junk, .junk, .junk, .junk, .junk, .junk, .junk, .junk, .junk, .junk, .junk, .junk, .junk, .junk, .junk, .junk, .junk, .junk, .junk, .junk, .junk, .junk, .junk, .junk, .junk, .junk, .junk, .junk, .junk, .junk, .junk, .junk, .junk, .junk, .junk, .junk, .junk, .junk, .junk, .junk, .junk, .junk, .junk, .junk, .junk, .junk, .junk, .junk, .junk, .junk, .junk, .junk, .junk, .junk, .junk, .junk, .junk, .junk, .junk, .junk, .junk, .junk, .junk, .junk, .junk, .junk, .junk, .junk, .junk, .junk, .junk, .junk, .junk, .junk, .junk, .junk, .junk]

def L_spec_l06Go_11_b (Φ : Post) (u : (Value × Value × Int × Int × Int)) (N : (Value × Value × Int × Int × Int) → (Bool × Int) → World → Prop) (s : (Bool × Int)) (w : World) : Prop :=
  B_spec_l06Go_11 u.1 u.2.1 u.2.2.1 u.2.2.2.1 u.2.2.2.2 s.1 s.2 N (fun v w => ∀ j : Nat → Value, Φ (.exit 2) (mkT j 0 L_spec_l06Go_11_e2 v) w) w

theorem L_spec_l06Go_11_eq (j : Nat → Value) (u : (Value × Value × Int × Int × Int)) (s : (Bool × Int)) (N : (Value × Value × Int × Int × Int) → (Bool × Int) → World → Prop) (D2 : (Value × Value × Int × Int × Int × Bool × Unit) → World → Prop) (R : (Unit) → World → Prop) (w : World) :
    W Try.prog ty (fun _ _ _ _ => False) (loopAt Try.f97 11) (loopPost L_spec_l06Go_11_sp [(2, (⟨L_spec_l06Go_11_e2, D2⟩ : Door))] ⟨L_spec_l06Go_11_rt, R⟩ (fun v w => N ((fun v => (v.1, v.2.1, v.2.2.1, v.2.2.2.1, v.2.2.2.2.1)) v) ((fun v => (v.2.2.2.2.2.1, v.2.2.2.2.2.2.1)) v) w)) (mkT j 0 L_spec_l06Go_11_sp ((fun u s => (u.1, u.2.1, u.2.2.1, u.2.2.2.1, u.2.2.2.2, s.1, s.2, ())) u s)) w =
    B_spec_l06Go_11 u.1 u.2.1 u.2.2.1 u.2.2.2.1 u.2.2.2.2 s.1 s.2 N D2 w := by
  kernel_rfl

def O_spec_l06Go_1 : Code → Post → List SV → World → Prop :=
  orc 11 (loopAt Try.f97 11) L_spec_l06Go_11_sp (fun Φ fr w => LOOP (U := (Value × Value × Int × Int × Int)) (S := (Bool × Int)) ((fun v => (v.1, v.2.1, v.2.2.1, v.2.2.2.1, v.2.2.2.2.1)) (extT L_spec_l06Go_11_sp fr)) (L_spec_l06Go_11_b Φ ((fun v => (v.1, v.2.1, v.2.2.1, v.2.2.2.1, v.2.2.2.2.1)) (extT L_spec_l06Go_11_sp fr))) ((fun v => (v.2.2.2.2.2.1, v.2.2.2.2.2.2.1)) (extT L_spec_l06Go_11_sp fr)) w) (fun _ _ _ _ => False)

theorem O_spec_l06Go_1_ok : Sound Try.prog O_spec_l06Go_1 :=
  orc_ok (sound_none _) fun Φ fr w hs h => loop_ok (ty := ty) follows (sound_none _) L_spec_l06Go_11_sp (fun v => (v.1, v.2.1, v.2.2.1, v.2.2.2.1, v.2.2.2.2.1)) (fun v => (v.2.2.2.2.2.1, v.2.2.2.2.2.2.1)) (fun u s => (u.1, u.2.1, u.2.2.1, u.2.2.2.1, u.2.2.2.2, s.1, s.2, ())) (fun _ => rfl) L_spec_l06Go_11_ex L_spec_l06Go_11_rt (body := L_spec_l06Go_11_b Φ) (fun j u s w N hb => by
    have e := L_spec_l06Go_11_eq j u s N (doorOf Φ (.exit 2) L_spec_l06Go_11_e2).D (doorOf Φ .ret L_spec_l06Go_11_rt).D w
    exact Eq.mpr e hb) hs h

def B_spec_l06Go_6 (s0 : Value) (list1 : Value) (used2 : Int) (p6 : Int) (image7 : Int) (N : (Value × Value × Int × Int) → Int → World → Prop) (D0 : (Unit) → World → Prop) (w : World) : Prop :=
  (∀ w_22, Drew w w_22 → (NilOk s0 ∧ (QAll Try.prog (Instr.fieldAt 73 s0 0) .any fun (x39_23 : Value) => (QAll Try.prog (Instr.fieldAt 25 x39_23 0) .any fun (x40_24 : Value) => (QSub Try.prog (Instr.loadAt 2 x40_24) w_22 (.int .i64) fun (x41_25 : Int) => (((decide (image7 < x41_25)) = true → (NilOk s0 ∧ (QAll Try.prog (Instr.fieldAt 73 s0 5) .any fun (x46_26 : Value) => (QSub Try.prog (Instr.loadAt 2 x46_26) w_22 (.int .i64) fun (x47_27 : Int) => (NilOk s0 ∧ (QAll Try.prog (Instr.fieldAt 73 s0 4) .any fun (x50_28 : Value) => (QSub Try.prog (Instr.loadAt 2 x50_28) w_22 (.int .i64) fun (x51_29 : Int) => (((decide (x47_27 < x51_29)) = true → (∀ w_30, Drew w_22 w_30 → (QAll Try.prog (convert 2 102 (.int .i64 image7)) (.int .u64) fun (x58_31 : Int) => (0 ≤ x58_31 ∧ ((((IntKind.i64.wrap ((BitVec.toNat (BitVec.ofInt (IntKind.bits .i64) (Int.fdiv used2 (2 ^ min (Int.toNat x58_31) 64)) &&& BitVec.ofInt (IntKind.bits .i64) (1 : Int)) : Nat))) == (1 : Int)) = true → N ((s0 : Value), (list1 : Value), used2, p6) (IntKind.i64.wrap (image7 + (1 : Int))) w_30) ∧ (((IntKind.i64.wrap ((BitVec.toNat (BitVec.ofInt (IntKind.bits .i64) (Int.fdiv used2 (2 ^ min (Int.toNat x58_31) 64)) &&& BitVec.ofInt (IntKind.bits .i64) (1 : Int)) : Nat))) == (1 : Int)) = false → (NilOk s0 ∧ (QAll Try.prog (Instr.fieldAt 73 s0 2) .any fun (x65_32 : Value) => (QSub Try.prog (Instr.loadAt 31 x65_32) w_30 .any fun (x66_33 : Value) => (QAll Try.prog (Instr.indexAt 31 x66_33 (.int .i64 p6)) .any fun (x68_34 : Value) => (QSub Try.prog (Instr.loadAt 2 x68_34) w_30 (.int .i64) fun (x69_35 : Int) => (NilOk s0 ∧ (QAll Try.prog (Instr.fieldAt 73 s0 3) .any fun (x72_36 : Value) => (QSub Try.prog (Instr.loadAt 31 x72_36) w_30 .any fun (x73_37 : Value) => (QAll Try.prog (Instr.indexAt 31 x73_37 (.int .i64 image7)) .any fun (x75_38 : Value) => (QSub Try.prog (Instr.loadAt 2 x75_38) w_30 (.int .i64) fun (x76_39 : Int) => (((x69_35 != x76_39) = true → N ((s0 : Value), (list1 : Value), used2, p6) (IntKind.i64.wrap (image7 + (1 : Int))) w_30) ∧ ((x69_35 != x76_39) = false → (At (loopAt Try.f97 11) (loopAt Try.f97 11) (LOOP (U := (Value × Value × Int × Int × Int)) (S := (Bool × Int)) ((s0 : Value), (list1 : Value), used2, p6, image7) (fun N_63 s_64 w_65 => B_spec_l06Go_11 (s0 : Value) (list1 : Value) used2 p6 image7 s_64.1 s_64.2 N_63 (fun (v_51 : (Value × Value × Int × Int × Int × Bool × Unit)) w_52 => ∀ _j_53 : Nat → Value, ((v_51.2.2.2.2.2.1 = true → (Fc Try.prog 90 #[v_51.2.1] w_52 (.one .any) fun (x108_55 : Value) w_54 => (Pr Try.prog (Instr.buildSlice 31 1 #[(0, (.int .i64 v_51.2.2.2.2.1))]) w_54 (.one .any) fun (x110_57 : Value) w_56 => (Pr Try.prog (Builtin.append_ #[31, 31] 31 #[x108_55, x110_57]) w_56 (.one .any) fun (x111_59 : Value) w_58 => (QAll Try.prog (convert 2 102 (.int .i64 v_51.2.2.2.2.1)) (.int .u64) fun (x114_60 : Int) => (0 ≤ x114_60 ∧ (Fc Try.prog 97 #[v_51.1, x111_59, (.int .i64 (IntKind.i64.wrap ((BitVec.toNat (BitVec.ofInt (IntKind.bits .i64) v_51.2.2.1 ||| BitVec.ofInt (IntKind.bits .i64) (IntKind.i64.wrap ((1 : Int) * 2 ^ min (Int.toNat x114_60) 64))) : Nat))))] w_58 .unit fun (x117_62 : Unit) w_61 => N ((v_51.1 : Value), (v_51.2.1 : Value), v_51.2.2.1, v_51.2.2.2.1) (IntKind.i64.wrap (v_51.2.2.2.2.1 + (1 : Int))) w_61))))))) ∧ (v_51.2.2.2.2.2.1 = false → N ((v_51.1 : Value), (v_51.2.1 : Value), v_51.2.2.1, v_51.2.2.2.1) (IntKind.i64.wrap (v_51.2.2.2.2.1 + (1 : Int))) w_52))) w_65) (true, (0 : Int)) w_30)))))))))))))))))))) ∧ ((decide (x47_27 < x51_29)) = false → D0 () w_22))))))))) ∧ ((decide (image7 < x41_25)) = false → D0 () w_22)))))))

abbrev L_spec_l06Go_6_e0 : List Slot := [.junk, .junk, .junk, .junk, .junk, .junk, .junk, .junk, .junk, .junk, .junk, .junk, .junk, .junk, .junk, .junk, .junk, .junk, .junk, .junk, .junk, .junk, .junk, .junk, .junk, .junk, .junk, .junk, .junk, .junk, .junk, .junk, .junk, .junk, .junk, .junk, .junk, .junk, .junk, .junk, .junk, .junk, .junk, .junk, .junk, .junk, .junk, .junk, .junk, .junk, .junk, .junk, .junk, .junk, .junk, .junk, .junk, .junk, .junk, .junk, .junk, .junk, .junk, .junk, .junk, .junk, .junk, .junk, .junk, .junk, .junk, .junk, .junk, .junk, .junk, .junk, .junk, .junk, .junk, .junk, .junk, .junk, .junk, .junk, .junk, .junk, .junk, .junk, .junk, .junk, .junk, .junk, .junk, .junk, .junk, .junk, .junk, .junk, .junk, .junk, .junk, .junk, .junk, .junk, .junk, .junk, .junk, .junk, .junk, .junk, .junk, .junk, .junk, .junk, .junk, .junk, .junk, .junk]

abbrev L_spec_l06Go_6_sp : List Slot := [.k .any, .k .any, .k (.int .i64), .junk, .junk, .junk, .k (.int .i64), .k (.int .i64), .junk, .junk, .junk, .junk, .junk, .junk, .junk, .junk, .junk, .junk, .junk, .junk, .junk, .junk, .junk, .junk, .junk, .junk, .junk, .junk, .junk, .junk, .junk, .junk, .junk, .junk, .junk, .junk, .junk, .junk, .junk, .junk, .junk, .junk, .junk, .junk, .junk, .junk, .junk, .junk, .junk, .junk, .junk, .junk, .junk, .junk, .junk, .junk, .junk, .junk, .junk, .junk, .junk, .junk, .junk, .junk, .junk, .junk, .junk, .junk, .junk, .junk, .junk, .junk, .junk, .junk, .junk, .junk, .junk, .junk, .junk, .junk, .junk, .junk, .junk, .junk, .junk, .junk, .junk, .junk, .junk, .junk, .junk, .junk, .junk, .junk, .junk, .junk, .junk, .junk, .junk, .junk, .junk, .junk, .junk, .junk, .junk, .junk, .junk, .junk, .junk, .junk, .junk, .junk, .junk, .junk, .junk, .junk, .junk, .junk]
abbrev L_spec_l06Go_6_ex : List (Nat × List Slot) := [(0, L_spec_l06Go_6_e0)]
abbrev L_spec_l06Go_6_rt : List Slot := [.junk, .junk, .junk, .junk, .junk, .junk, .junk, .junk, .junk, .junk, .junk, .junk, .junk, .junk, .junk, .junk, .junk, .junk, .junk, .junk, .junk, .junk, .junk, .junk, .junk, .junk, .junk, .junk, .junk, .junk, .junk, .junk, .junk, .junk, .junk, .junk, .junk, .junk, .junk, .junk, .junk, .junk, .junk, .junk, .junk, .junk, .junk, .junk, .junk, .junk, .junk, .junk, .junk, .junk, .junk, .junk, .junk, .junk, .junk, .junk, .junk, .junk, .junk, .junk, .junk, .junk, .junk, .junk, .junk, .junk, .junk, .junk, .junk, .junk, .junk, .junk, .junk, .junk, .junk, .junk, .junk, .junk, .junk, .junk, .junk, .junk, .junk, .junk, .junk, .junk, .junk, .junk, .junk, .junk, .junk, .junk, .junk, .junk, .junk, .junk, .junk, .junk, .junk, .junk, .junk, .junk, .junk, .junk, .junk, .junk, .junk, .junk, .junk, .junk, .junk, .junk, .junk, .junk]

def L_spec_l06Go_6_b (Φ : Post) (u : (Value × Value × Int × Int)) (N : (Value × Value × Int × Int) → Int → World → Prop) (s : Int) (w : World) : Prop :=
  B_spec_l06Go_6 u.1 u.2.1 u.2.2.1 u.2.2.2 s N (fun v w => ∀ j : Nat → Value, Φ (.exit 0) (mkT j 0 L_spec_l06Go_6_e0 v) w) w

theorem L_spec_l06Go_6_eq (j : Nat → Value) (u : (Value × Value × Int × Int)) (s : Int) (N : (Value × Value × Int × Int) → Int → World → Prop) (D0 : (Unit) → World → Prop) (R : (Unit) → World → Prop) (w : World) :
    W Try.prog ty O_spec_l06Go_1 (loopAt Try.f97 6) (loopPost L_spec_l06Go_6_sp [(0, (⟨L_spec_l06Go_6_e0, D0⟩ : Door))] ⟨L_spec_l06Go_6_rt, R⟩ (fun v w => N ((fun v => (v.1, v.2.1, v.2.2.1, v.2.2.2.1)) v) ((fun v => v.2.2.2.2.1) v) w)) (mkT j 0 L_spec_l06Go_6_sp ((fun u s => (u.1, u.2.1, u.2.2.1, u.2.2.2, s, ())) u s)) w =
    B_spec_l06Go_6 u.1 u.2.1 u.2.2.1 u.2.2.2 s N D0 w := by
  kernel_rfl

def O_spec_l06Go_2 : Code → Post → List SV → World → Prop :=
  orc 6 (loopAt Try.f97 6) L_spec_l06Go_6_sp (fun Φ fr w => LOOP (U := (Value × Value × Int × Int)) (S := Int) ((fun v => (v.1, v.2.1, v.2.2.1, v.2.2.2.1)) (extT L_spec_l06Go_6_sp fr)) (L_spec_l06Go_6_b Φ ((fun v => (v.1, v.2.1, v.2.2.1, v.2.2.2.1)) (extT L_spec_l06Go_6_sp fr))) ((fun v => v.2.2.2.2.1) (extT L_spec_l06Go_6_sp fr)) w) O_spec_l06Go_1

theorem O_spec_l06Go_2_ok : Sound Try.prog O_spec_l06Go_2 :=
  orc_ok O_spec_l06Go_1_ok fun Φ fr w hs h => loop_ok (ty := ty) follows O_spec_l06Go_1_ok L_spec_l06Go_6_sp (fun v => (v.1, v.2.1, v.2.2.1, v.2.2.2.1)) (fun v => v.2.2.2.2.1) (fun u s => (u.1, u.2.1, u.2.2.1, u.2.2.2, s, ())) (fun _ => rfl) L_spec_l06Go_6_ex L_spec_l06Go_6_rt (body := L_spec_l06Go_6_b Φ) (fun j u s w N hb => by
    have e := L_spec_l06Go_6_eq j u s N (doorOf Φ (.exit 0) L_spec_l06Go_6_e0).D (doorOf Φ .ret L_spec_l06Go_6_rt).D w
    exact Eq.mpr e hb) hs h

def V_spec_l06Go (s0 : Value) (list1 : Value) (used2 : Int) (w : World) (K : Unit → World → Prop) : Prop :=
  (QAll Try.prog (Builtin.len_ #[31] 3 #[list1]) (.int .i64) fun (x11_1 : Int) => (NilOk s0 ∧ (QAll Try.prog (Instr.fieldAt 73 s0 0) .any fun (x15_2 : Value) => (QAll Try.prog (Instr.fieldAt 25 x15_2 0) .any fun (x16_3 : Value) => (QSub Try.prog (Instr.loadAt 2 x16_3) w (.int .i64) fun (x17_4 : Int) => (((x11_1 == x17_4) = true → (NilOk s0 ∧ (QAll Try.prog (Instr.fieldAt 73 s0 5) .any fun (x21_5 : Value) => (QSub Try.prog (Instr.loadAt 2 x21_5) w (.int .i64) fun (x22_6 : Int) => (((x22_6 == (0 : Int)) = true → (Fc Try.prog 90 #[list1] w (.one .any) fun (x26_8 : Value) w_7 => (NilOk s0 ∧ (QAll Try.prog (Instr.fieldAt 73 s0 6) .any fun (x28_9 : Value) => (PrU Try.prog (Instr.storeAt 31 x28_9 x26_8) w_7 fun w_10 => (NilOk s0 ∧ (QAll Try.prog (Instr.fieldAt 73 s0 5) .any fun (x31_12 : Value) => (QSub Try.prog (Instr.loadAt 2 x31_12) w_10 (.int .i64) fun (x32_13 : Int) => (NilOk s0 ∧ (QAll Try.prog (Instr.fieldAt 73 s0 5) .any fun (x35_14 : Value) => (PrU Try.prog (Instr.storeAt 2 x35_14 (.int .i64 (IntKind.i64.wrap (x32_13 + (1 : Int))))) w_10 fun w_15 => K () w_15))))))))))) ∧ ((x22_6 == (0 : Int)) = false → (NilOk s0 ∧ (QAll Try.prog (Instr.fieldAt 73 s0 5) .any fun (x31_17 : Value) => (QSub Try.prog (Instr.loadAt 2 x31_17) w (.int .i64) fun (x32_18 : Int) => (NilOk s0 ∧ (QAll Try.prog (Instr.fieldAt 73 s0 5) .any fun (x35_19 : Value) => (PrU Try.prog (Instr.storeAt 2 x35_19 (.int .i64 (IntKind.i64.wrap (x32_18 + (1 : Int))))) w fun w_20 => K () w_20)))))))))))) ∧ ((x11_1 == x17_4) = false → (At (loopAt Try.f97 6) (loopAt Try.f97 6) (LOOP (U := (Value × Value × Int × Int)) (S := Int) ((s0 : Value), (list1 : Value), used2, x11_1) (fun N_69 s_70 w_71 => B_spec_l06Go_6 (s0 : Value) (list1 : Value) used2 x11_1 s_70 N_69 (fun (v_66 : (Unit)) w_67 => ∀ _j_68 : Nat → Value, K () w_67) w_71) (0 : Int) w)))))))))

theorem eq_spec_l06Go (s0 : Value) (list1 : Value) (used2 : Int) (w : World) (K : Unit → World → Prop) :
    W Try.prog ty O_spec_l06Go_2 (bodyOf Try.f97) (fnPost Try.prog Try.f97.results.toList .unit K) (frame0 [s0, list1, (.int .i64 used2)] 118) w = V_spec_l06Go s0 list1 used2 w K := by
  kernel_rfl

theorem body_spec_l06Go : Try.f97.body = some (bodyOf Try.f97) := by kernel_rfl
theorem name_spec_l06Go : (Try.f97.name == "runtime.NumGoroutine") = false := by kernel_rfl

theorem walk_spec_l06Go (s0 : Value) (list1 : Value) (used2 : Int) {w : World} {K : Unit → World → Prop} (h : V_spec_l06Go s0 list1 used2 w K) : Fc Try.prog 97 #[s0, list1, (.int .i64 used2)] w .unit K :=
  fn_ok follows O_spec_l06Go_2_ok Try.func97 name_spec_l06Go body_spec_l06Go Try.ntmps97 [s0, list1, (.int .i64 used2)] (Eq.mpr (eq_spec_l06Go s0 list1 used2 w K) h)

-- uses S9IsoS
theorem c_spec_l06Go {b : Nat} {x y : Col} {one two first : Value} (B : Nat) (hx : x.Ok) (hy : y.Ok) (Ix : x.Is) (Iy : y.Is) (hxy : x.n = y.n) (hk : x.k = y.k) :
    ∀ (fuel : Nat) (p : List Int) (v : Value) (u : Nat) (w : World) (K : Unit → World → Prop), p.length + fuel = x.n.toNat → B ≤ w.heap.size → SrAt w b x y one two 1 0 first → SlI w one (typesL x x.n.toNat) → SlI w two (typesL y y.n.toNat) → SlI w v p → (∀ e ∈ p, 0 ≤ e ∧ e < x.n) → u < 2 ^ 17 → (∀ j, u.testBit j = decide ((j : Int) ∈ p)) →
      (isoF x y fuel p = none → ∀ w', Below w.heap.size w w' → K () w') → (∀ l, isoF x y fuel p = some l → ∀ w' u c, Mod [b] w w' → B ≤ c → OwnI w' c u l → SrAt w' b x y one two 1 1 u → K () w') →
      Fc Try.prog F_spec_l06Go #[ptr b 0, v, .int .i64 (u : Int)] w .unit K
  | fuel, p, v, u, w, K, hlen, hB, hsr, h1, h2, hp, hpe, hu, hbit, hn, hs => by
    have n0 := Ix.1; have n1 := Ix.2.1
    have nn : NilOk (ptr b 0) := .inl ⟨_, rfl⟩
    have hl1 := typesL_len x x.n.toNat
    have hl2 := typesL_len y y.n.toNat
    refine walk_spec_l06Go _ _ _ (lenI hp ⟨nn, fldp sr0 (col_n hsr.x ⟨fun he => ?_, fun hne => ?_⟩)⟩)
    · have he := eq_t he
      have hf : fuel = 0 := by omega
      subst hf
      refine ⟨nn, fldp sr5 (ld (k := .int .i64) yI (hsr.tail hx hy 3 rfl) ⟨fun _ => ?_, fun h => absurd rfl (eq_f h)⟩)⟩
      refine c_spec_l01Own hp (by omega) fun w1 o c hc q1 ho => ⟨nn, fldp sr6 ?_⟩
      have hs1 := hsr.keep q1
      refine st y1SI hs1.blk (by rw [srV_len hx hy]; omega) (own_one_I ho) fun w2 m2 s2 h2' => ?_
      have hs2 : SrAt w2 b x y one two 1 0 o := SrAt.setf hx hy h2'
      refine ⟨nn, fldp sr5 (ld (k := .int .i64) yI (hs2.tail hx hy 3 rfl) ⟨nn, fldp sr5 ?_⟩)⟩
      refine st yI hs2.blk (by rw [srV_len hx hy]; omega) rfl fun w3 m3 s3 h3' => ?_
      rw [wrap_small (by omega) (by omega)] at h3'
      have hs3 : SrAt w3 b x y one two 1 1 o := SrAt.setc hx hy h3'
      have hlb := at_lt hsr.blk
      exact hs p rfl w3 o c (((mod_of_below q1 _).trans m2).trans m3) (by omega) ((ho.mod m2 (by simp; omega)).mod m3 (by simp; omega)) hs3
    have hne := eq_f hne
    match fuel, hlen, hn, hs with
    | 0, hlen, _, _ => omega
    | fuel + 1, hlen, hn, hs =>
    have hkn : p.length < x.n.toNat := by omega
    rw [isoF_succ] at hn hs
    refine lp (fun s w' => ∃ j : Nat, s = j ∧ j ≤ x.n.toNat ∧ ((Below w.heap.size w w' ∧ isoR x y fuel p j = isoR x y fuel p 0) ∨ ∃ l o c, isoR x y fuel p 0 = some l ∧ Mod [b] w w' ∧ B ≤ c ∧ OwnI w' c o l ∧ SrAt w' b x y one two 1 1 o)) (fun s _ => (17 - s).toNat) ⟨0, rfl, by omega, .inl ⟨Below.refl _ _, rfl⟩⟩ ?_
    rintro t w2 N ⟨j, hjj, hjn, hst⟩ hN
    subst hjj
    unfold B_spec_l06Go_6
    intro w3 hd3
    rcases hst with ⟨q2, hR⟩ | ⟨l, o, c, hsome, m2, hc, ho, hsr2⟩
    case inr =>
      have b23 := hd3.below w2.heap.size
      have hsr3 := hsr2.keep b23
      have fin : ∀ w', Below w2.heap.size w2 w' → K () w' := fun w' q => hs l hsome w' o c (m2.trans (mod_of_below q _)) hc (ho.keep q) (hsr2.keep q)
      refine ⟨nn, fldp sr0 (col_n hsr3.x ⟨fun _ => ⟨nn, fldp sr5 (ld (k := .int .i64) yI (hsr3.tail hx hy 3 rfl) ⟨nn, fldp sr4 (ld (k := .int .i64) yI (hsr3.tail hx hy 2 rfl) ⟨fun h => absurd (dec_t h) (by omega), fun _ _ => fin w3 b23⟩)⟩)⟩, fun _ _ => fin w3 b23⟩)⟩
    have q3 := q2.trans (hd3.below w.heap.size)
    have hsr3 := hsr.keep q3
    refine ⟨nn, fldp sr0 (col_n hsr3.x ⟨fun hlt => ?_, fun hge => ?_⟩)⟩
    · have hlt := dec_t hlt
      refine ⟨nn, fldp sr5 (ld (k := .int .i64) yI (hsr3.tail hx hy 3 rfl) ⟨nn, fldp sr4 (ld (k := .int .i64) yI (hsr3.tail hx hy 2 rfl) ⟨fun _ => ?_, fun h => absurd (by omega) (dec_f h)⟩)⟩)⟩
      intro w4 hd4
      have q4 := q3.trans (hd4.below w.heap.size)
      have hsr4 := hsr.keep q4
      have next : ∀ w', Below w.heap.size w w' → isoR x y fuel p (j + 1) = isoR x y fuel p 0 → N (ptr b 0, v, (u : Int), (p.length : Int)) (IntKind.i64.wrap ((j : Int) + 1)) w' := fun w' q h => by
        rw [wrap_small (by omega) (by omega)]
        exact hN _ _ ⟨j + 1, by omega, by omega, .inl ⟨q, h⟩⟩ (by omega)
      refine int_u64 (by omega) (by omega) ⟨by omega, ?_⟩
      rw [wshr (by omega) (by omega), bit_iff, hbit]
      refine ⟨fun hin => ?_, fun hout => ?_⟩
      · have hin := dec_t hin
        exact next w4 q4 (by rw [← hR]; exact (isoR_skip (by omega) (fun h => by rw [fits_out hin] at h; cases h.2)).symm)
      have hout := dec_f hout
      refine ⟨nn, fldp sr2 (ld (k := .any) y1SI (hsr4.tail hx hy 0 rfl) (atI (h1.keep q4) (by omega) (by rw [hl1]; omega) ⟨nn, fldp sr3 (ld (k := .any) y1SI (hsr4.tail hx hy 1 rfl) (atI (h2.keep q4) (by omega) (by rw [hl2]; omega) ?_))⟩))⟩
      rw [Int.toNat_natCast, Int.toNat_natCast, typesL_get x hkn, typesL_get y (by omega)]
      have hsame : sameD x y p.length j = decide (typeN x p.length x.k.toNat = typeN y j y.k.toNat) := by
        unfold sameD
        rw [decide_eq_decide, ← hk]
        exact (typeN_eq n1 (by omega) _ _ _).symm
      refine ⟨fun hne2 => ?_, fun heq => ?_⟩
      · have hne2 := ne_t hne2
        exact next w4 q4 (by rw [← hR]; exact (isoR_skip (by omega) (fun h => by rw [hsame] at h; exact hne2 (dec_t h.1))).symm)
      have heq := ne_f heq
      have hsm : sameD x y p.length j = true := by rw [hsame]; exact decide_eq_true heq
      refine lp (fun s w' => Below w4.heap.size w4 w' ∧ ∃ m : Nat, s.2 = m ∧ m ≤ p.length ∧ (s.1 = true → ∀ a : Nat, a < m → colAt x a p.length = colAt y (p.getD a 0) j) ∧ (s.1 = false → fitsD x y p j = false)) (fun s _ => (17 - s.2).toNat) ⟨Below.refl _ _, 0, rfl, by omega, fun _ a h => absurd h (by omega), fun h => absurd h (by simp)⟩ ?_
      rintro ⟨fits, t⟩ w5 N' ⟨q5, m, hm, hmp, hall, hbad⟩ hN'
      simp only at hm hall hbad
      subst hm
      unfold B_spec_l06Go_11
      dsimp only
      have q45 := q4.trans (q5.mono q4.size)
      have hsr5 := hsr.keep q45
      have bad : fits = false → N (ptr b 0, v, (u : Int), (p.length : Int)) (IntKind.i64.wrap ((j : Int) + 1)) w5 := fun h => next w5 q45 (by rw [← hR]; exact (isoR_skip (by omega) (fun h' => by rw [hbad h] at h'; cases h'.2)).symm)
      refine ⟨fun hlt2 => ⟨fun hf => ?_, fun hf => ?_⟩, fun hge2 => ?_⟩
      · have hlt2 := dec_t hlt2
        intro w6 hd6
        have q6 := q45.trans (hd6.below w.heap.size)
        have hsr6 := hsr.keep q6
        have hmem : p.getD m 0 ∈ p := by
          have : m < p.length := by omega
          have e : p.getD m 0 = p[m] := by simp [List.getD, this]
          rw [e]; exact List.getElem_mem this
        have hto := hpe _ hmem
        have hne3 : p.getD m 0 ≠ j := fun h => hout (by rw [← h]; exact hmem)
        refine ⟨nn, fldp sr0 (col_all hx hsr6.x ⟨nn, fldp sr1 (col_all hy (hsr6.y hx) (atI (hp.keep q6) (by omega) hlt2 ?_))⟩)⟩
        rw [Int.toNat_natCast]
        refine c_spec_l01At hx (by omega) (by omega) (by omega) (by omega) (by omega) fun w7 q7 => ⟨q7, c_spec_l01At hy hto.1 (by omega) (by omega) (by omega) hne3 fun w8 q8 => ?_⟩
        have q78 := q7.trans (q8.mono q7.size)
        refine ⟨q78, ?_⟩
        rw [wrap_small (by omega) (by omega)]
        refine hN' _ _ ⟨(q5.trans (hd6.below _)).trans (q78.mono (by have := q5.size; have := (hd6.below w5.heap.size).size; omega)), m + 1, by simp only; omega, by omega, fun h a ha => ?_, fun h => ?_⟩ (by simp only; omega)
        · have h := eq_t h
          by_cases ham : a < m
          · exact hall hf a ham
          · have : a = m := by omega
            subst this
            exact h
        · have h := eq_f h
          unfold fitsD
          exact decide_eq_false fun hh => h (hh m (by omega)).2
      · intro _
        exact ⟨fun h => absurd h (by rw [hf]; simp), fun _ => bad hf⟩
      · have hge2 := dec_f hge2
        have : m = p.length := by omega
        subst this
        intro _
        refine ⟨fun hf => ?_, fun hf => bad hf⟩
        have hfits : fitsD x y p j = true := by
          unfold fitsD
          refine decide_eq_true fun a ha => ⟨fun h => hout ?_, hall hf a ha⟩
          rw [← h]
          have e : p.getD a 0 = p[a] := by simp [List.getD, ha]
          rw [e]; exact List.getElem_mem ha
        have hgo := isoR_go (f := fuel) (by omega) hsm hfits
        rw [hR] at hgo
        refine c_spec_l01Own (hp.keep q45) (by omega) fun w6 o c hc q6 ho => ?_
        have q56 := q45.trans (q6.mono q45.size)
        refine appI ho (by omega) fun o' w7 c' ho' m7 hc' => ?_
        have hz := q56.size; have hz5 := q45.size; have hz6 := q6.size
        have q7 : Below w.heap.size w w7 := q56.trans (m7.below (by omega) (by simp; omega))
        refine int_u64 (by omega) (by omega) ⟨by omega, ?_⟩
        rw [wbor (by omega) (by omega)]
        have hlt7 := ho'.lt
        refine c_spec_l06Go B hx hy Ix Iy hxy hk fuel (p ++ [(j : Int)]) o' (u ||| 2 ^ j) w7 _ (by simp; omega) (by have := q7.size; omega) (hsr.keep q7) (h1.keep q7) (h2.keep q7) (own_slI ho' (by simp; omega)) (fun e he => by
          rcases List.mem_append.1 he with he | he
          · exact hpe e he
          · simp at he; omega) (Nat.or_lt_two_pow hu (Nat.pow_lt_pow_right (by omega) (by omega))) (bits_more hbit) (fun hnone w8 q8 => ?_) (fun l hsome w8 o8 c8 m8 hc8 ho8 hs8 => ?_)
        · rw [hnone] at hgo
          exact next w8 (q7.trans (q8.mono q7.size)) hgo.symm
        · rw [hsome] at hgo
          show N _ (IntKind.i64.wrap ((j : Int) + 1)) w8
          rw [wrap_small (by omega) (by omega)]
          exact hN _ _ ⟨j + 1, by omega, by omega, .inr ⟨l, o8, c8, hgo, (mod_of_below q7 _).trans m8, hc8, ho8, hs8⟩⟩ (by omega)
    · have hge := dec_f hge
      have : j = x.n.toNat := by omega
      subst this
      intro _
      refine hn ?_ w3 q3
      rw [← hR, hxy, isoR_end]

end Go.Proofs.Ytkadckhealbdaaa
