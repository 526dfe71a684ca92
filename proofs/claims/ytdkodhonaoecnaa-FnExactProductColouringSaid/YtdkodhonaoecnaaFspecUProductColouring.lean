/- The reading of spec_ProductColouring, and its contract. No condition. -/
import Derived.Test.YtdkodhonaoecnaaTy
import Derived.Test.YtdkodhonaoecnaaS7Prod
import Derived.Test.YtdkodhonaoecnaaFspecUl01At
import Derived.Test.YtdkodhonaoecnaaFspecUl01Edge
import Derived.Test.YtdkodhonaoecnaaFspecUl01Is
namespace Go.Proofs.Ytdkodhonaoecnaa
open Go Go.RowKit Eng Mem
set_option linter.unusedVariables false
set_option maxRecDepth 100000
def B_spec_ProductColouring_11 (x2 : Value) (y3 : Value) (x4 : Value) (m6 : Int) (out7 : Value) (b8 : Int) (a9 : Int) (N : (Value × Value × Value × Int × Value × Int) → Int → World → Prop) (D3 : (Value × Value × Value × Int × Value × Int × Unit) → World → Prop) (w : World) : Prop :=
  (((decide (a9 < b8)) = true → (∀ w_57, Drew w w_57 → (m6 ≠ 0 ∧ (m6 ≠ 0 ∧ ((((IntKind.i64.wrap (Int.tdiv a9 m6)) != (IntKind.i64.wrap (Int.tdiv b8 m6))) = true → (∀ w_58, Drew w_57 w_58 → (QSub Try.prog (Instr.loadAt 28 x2) w_58 .any fun (x69_59 : Value) => (m6 ≠ 0 ∧ (m6 ≠ 0 ∧ (QAll Try.prog (Instr.fieldAt 28 out7 2) .any fun (x78_60 : Value) => (Fc Try.prog 66 #[(.int .i64 a9), (.int .i64 b8)] w_58 (.one (.int .i64)) fun (x68_62 : Int) w_61 => (Keeps w_58 w_61 ((Fc Try.prog 65 #[x69_59, (.int .i64 (IntKind.i64.wrap (Int.tdiv a9 m6))), (.int .i64 (IntKind.i64.wrap (Int.tdiv b8 m6)))] w_61 (.one (.int .i64)) fun (x76_64 : Int) w_63 => (QAll Try.prog (convert 2 5 (.int .i64 x76_64)) (.int .u8) fun (x77_65 : Int) => (QAll Try.prog (Instr.indexAt 26 x78_60 (.int .i64 x68_62)) .any fun (x79_66 : Value) => (PrU Try.prog (Instr.storeAt 5 x79_66 (.int .u8 x77_65)) w_63 fun w_67 => N ((x2 : Value), (y3 : Value), (x4 : Value), m6, (out7 : Value), b8) (IntKind.i64.wrap (a9 + (1 : Int))) w_67))))))))))))) ∧ (((IntKind.i64.wrap (Int.tdiv a9 m6)) != (IntKind.i64.wrap (Int.tdiv b8 m6))) = false → (∀ w_69, Drew w_57 w_69 → (QAll Try.prog (Instr.fieldAt 28 x2 1) .any fun (x83_70 : Value) => (QSub Try.prog (Instr.loadAt 2 x83_70) w_69 (.int .i64) fun (x84_71 : Int) => (QSub Try.prog (Instr.loadAt 28 y3) w_69 .any fun (x85_72 : Value) => (m6 ≠ 0 ∧ (m6 ≠ 0 ∧ (QAll Try.prog (Instr.fieldAt 28 out7 2) .any fun (x95_73 : Value) => (Fc Try.prog 66 #[(.int .i64 a9), (.int .i64 b8)] w_69 (.one (.int .i64)) fun (x82_75 : Int) w_74 => (Keeps w_69 w_74 ((Fc Try.prog 65 #[x85_72, (.int .i64 (Int.tmod a9 m6)), (.int .i64 (Int.tmod b8 m6))] w_74 (.one (.int .i64)) fun (x92_77 : Int) w_76 => (Keeps w_69 w_76 ((QAll Try.prog (convert 2 5 (.int .i64 (IntKind.i64.wrap (x84_71 + x92_77)))) (.int .u8) fun (x94_78 : Int) => (QAll Try.prog (Instr.indexAt 26 x95_73 (.int .i64 x82_75)) .any fun (x96_79 : Value) => (PrU Try.prog (Instr.storeAt 5 x96_79 (.int .u8 x94_78)) w_76 fun w_80 => N ((x2 : Value), (y3 : Value), (x4 : Value), m6, (out7 : Value), b8) (IntKind.i64.wrap (a9 + (1 : Int))) w_80)))))))))))))))))))))) ∧ ((decide (a9 < b8)) = false → D3 ((x2 : Value), (y3 : Value), (x4 : Value), m6, (out7 : Value), b8, ()) w))

abbrev L_spec_ProductColouring_11_e3 : List Slot := [.junk, .junk, .k .any, .k .any, .k .any, .junk, .k (.int .i64), .k .any, .k (.int .i64), .junk, .junk, .junk, .junk, .junk, .junk, .junk, .junk, .junk, .junk, .junk, .junk, .junk, .junk, .junk, .junk, .junk, .junk, .junk, .junk, .junk, .junk, .junk, .junk, .junk, .junk, .junk, .junk, .junk, .junk, .junk, .junk, .junk, .junk, .junk, .junk, .junk, .junk, .junk, .junk, .junk, .junk, .junk, .junk, .junk, .junk, .junk, .junk, .junk, .junk, .junk, .junk, .junk, .junk, .junk, .junk, .junk, .junk, .junk, .junk, .junk, .junk, .junk, .junk, .junk, .junk, .junk, .junk, .junk, .junk, .junk, .junk, .junk, .junk, .junk, .junk, .junk, .junk, .junk, .junk, .junk, .junk, .junk, .junk, .junk, .junk, .junk, .junk, .junk]

abbrev L_spec_ProductColouring_11_sp : List Slot := [.junk, .junk, .k .any, .k .any, .k .any, .junk, .k (.int .i64), .k .any, .k (.int .i64), .k (.int .i64), .junk, .junk, .junk, .junk, .junk, .junk, .junk, .junk, .junk, .junk, .junk, .junk, .junk, .junk, .junk, .junk, .junk, .junk, .junk, .junk, .junk, .junk, .junk, .junk, .junk, .junk, .junk, .junk, .junk, .junk, .junk, .junk, .junk, .junk, .junk, .junk, .junk, .junk, .junk, .junk, .junk, .junk, .junk, .junk, .junk, .junk, .junk, .junk, .junk, .junk, .junk, .junk, .junk, .junk, .junk, .junk, .junk, .junk, .junk, .junk, .junk, .junk, .junk, .junk, .junk, .junk, .junk, .junk, .junk, .junk, .junk, .junk, .junk, .junk, .junk, .junk, .junk, .junk, .junk, .junk, .junk, .junk, .junk, .junk, .junk, .junk, .junk, .junk]
abbrev L_spec_ProductColouring_11_ex : List (Nat × List Slot) := [(3, L_spec_ProductColouring_11_e3)]
abbrev L_spec_ProductColouring_11_rt : List Slot := [.junk, .junk, .junk, .junk, .junk, .junk, .junk, .junk, .junk, .junk, .junk, .junk, .junk, .junk, .junk, .junk, .junk, .junk, .junk, .junk, .junk, .junk, .junk, .junk, .junk, .junk, .junk, .junk, .junk, .junk, .junk, .junk, .junk, .junk, .junk, .junk, .junk, .junk, .junk, .junk, .junk, .junk, .junk, .junk, .junk, .junk, .junk, .junk, .junk, .junk, .junk, .junk, .junk, .junk, .junk, .junk, .junk, .junk, .junk, .junk, .junk, .junk, .junk, .junk, .junk, .junk, .junk, .junk, .junk, .junk, .junk, .junk, .junk, .junk, .junk, .junk, .junk, .junk, .junk, .junk, .junk, .junk, .junk, .junk, .junk, .junk, .junk, .junk, .junk, .junk, .junk, .junk, .junk, .junk, .junk, .junk, .junk, .junk]

def L_spec_ProductColouring_11_b (Φ : Post) (u : (Value × Value × Value × Int × Value × Int)) (N : (Value × Value × Value × Int × Value × Int) → Int → World → Prop) (s : Int) (w : World) : Prop :=
  B_spec_ProductColouring_11 u.1 u.2.1 u.2.2.1 u.2.2.2.1 u.2.2.2.2.1 u.2.2.2.2.2 s N (fun v w => ∀ j : Nat → Value, Φ (.exit 3) (mkT j 0 L_spec_ProductColouring_11_e3 v) w) w

theorem L_spec_ProductColouring_11_eq (j : Nat → Value) (u : (Value × Value × Value × Int × Value × Int)) (s : Int) (N : (Value × Value × Value × Int × Value × Int) → Int → World → Prop) (D3 : (Value × Value × Value × Int × Value × Int × Unit) → World → Prop) (R : (Unit) → World → Prop) (w : World) :
    W Try.prog ty (fun _ _ _ _ => False) (loopAt Try.f24 11) (loopPost L_spec_ProductColouring_11_sp [(3, (⟨L_spec_ProductColouring_11_e3, D3⟩ : Door))] ⟨L_spec_ProductColouring_11_rt, R⟩ (fun v w => N ((fun v => (v.1, v.2.1, v.2.2.1, v.2.2.2.1, v.2.2.2.2.1, v.2.2.2.2.2.1)) v) ((fun v => v.2.2.2.2.2.2.1) v) w)) (mkT j 0 L_spec_ProductColouring_11_sp ((fun u s => (u.1, u.2.1, u.2.2.1, u.2.2.2.1, u.2.2.2.2.1, u.2.2.2.2.2, s, ())) u s)) w =
    B_spec_ProductColouring_11 u.1 u.2.1 u.2.2.1 u.2.2.2.1 u.2.2.2.2.1 u.2.2.2.2.2 s N D3 w := by
  kernel_rfl

def O_spec_ProductColouring_1 : Code → Post → List SV → World → Prop :=
  orc 11 (loopAt Try.f24 11) L_spec_ProductColouring_11_sp (fun Φ fr w => LOOP (U := (Value × Value × Value × Int × Value × Int)) (S := Int) ((fun v => (v.1, v.2.1, v.2.2.1, v.2.2.2.1, v.2.2.2.2.1, v.2.2.2.2.2.1)) (extT L_spec_ProductColouring_11_sp fr)) (L_spec_ProductColouring_11_b Φ ((fun v => (v.1, v.2.1, v.2.2.1, v.2.2.2.1, v.2.2.2.2.1, v.2.2.2.2.2.1)) (extT L_spec_ProductColouring_11_sp fr))) ((fun v => v.2.2.2.2.2.2.1) (extT L_spec_ProductColouring_11_sp fr)) w) (fun _ _ _ _ => False)

theorem O_spec_ProductColouring_1_ok : Sound Try.prog O_spec_ProductColouring_1 :=
  orc_ok (sound_none _) fun Φ fr w hs h => loop_ok (ty := ty) follows (sound_none _) L_spec_ProductColouring_11_sp (fun v => (v.1, v.2.1, v.2.2.1, v.2.2.2.1, v.2.2.2.2.1, v.2.2.2.2.2.1)) (fun v => v.2.2.2.2.2.2.1) (fun u s => (u.1, u.2.1, u.2.2.1, u.2.2.2.1, u.2.2.2.2.1, u.2.2.2.2.2, s, ())) (fun _ => rfl) L_spec_ProductColouring_11_ex L_spec_ProductColouring_11_rt (body := L_spec_ProductColouring_11_b Φ) (fun j u s w N hb => by
    have e := L_spec_ProductColouring_11_eq j u s N (doorOf Φ (.exit 3) L_spec_ProductColouring_11_e3).D (doorOf Φ .ret L_spec_ProductColouring_11_rt).D w
    exact Eq.mpr e hb) hs h

def B_spec_ProductColouring_8 (x2 : Value) (y3 : Value) (x4 : Value) (m6 : Int) (out7 : Value) (b8 : Int) (N : (Value × Value × Value × Int × Value) → Int → World → Prop) (D1 : (Value × Value × Unit) → World → Prop) (w : World) : Prop :=
  (QAll Try.prog (Instr.fieldAt 28 out7 0) .any fun (x49_55 : Value) => (QSub Try.prog (Instr.loadAt 2 x49_55) w (.int .i64) fun (x50_56 : Int) => (((decide (b8 < x50_56)) = true → (At (loopAt Try.f24 11) (loopAt Try.f24 11) (LOOP (U := (Value × Value × Value × Int × Value × Int)) (S := Int) ((x2 : Value), (y3 : Value), (x4 : Value), m6, (out7 : Value), b8) (fun N_85 s_86 w_87 => B_spec_ProductColouring_11 (x2 : Value) (y3 : Value) (x4 : Value) m6 (out7 : Value) b8 s_86 N_85 (fun (v_82 : (Value × Value × Value × Int × Value × Int × Unit)) w_83 => ∀ _j_84 : Nat → Value, N ((v_82.1 : Value), (v_82.2.1 : Value), (v_82.2.2.1 : Value), v_82.2.2.2.1, (v_82.2.2.2.2.1 : Value)) (IntKind.i64.wrap (v_82.2.2.2.2.2.1 + (1 : Int))) w_83) w_87) (0 : Int) w))) ∧ ((decide (b8 < x50_56)) = false → D1 ((x4 : Value), (out7 : Value), ()) w))))

abbrev L_spec_ProductColouring_8_e1 : List Slot := [.junk, .junk, .junk, .junk, .k .any, .junk, .junk, .k .any, .junk, .junk, .junk, .junk, .junk, .junk, .junk, .junk, .junk, .junk, .junk, .junk, .junk, .junk, .junk, .junk, .junk, .junk, .junk, .junk, .junk, .junk, .junk, .junk, .junk, .junk, .junk, .junk, .junk, .junk, .junk, .junk, .junk, .junk, .junk, .junk, .junk, .junk, .junk, .junk, .junk, .junk, .junk, .junk, .junk, .junk, .junk, .junk, .junk, .junk, .junk, .junk, .junk, .junk, .junk, .junk, .junk, .junk, .junk, .junk, .junk, .junk, .junk, .junk, .junk, .junk, .junk, .junk, .junk, .junk, .junk, .junk, .junk, .junk, .junk, .junk, .junk, .junk, .junk, .junk, .junk, .junk, .junk, .junk, .junk, .junk, .junk, .junk, .junk, .junk]

abbrev L_spec_ProductColouring_8_sp : List Slot := [.junk, .junk, .k .any, .k .any, .k .any, .junk, .k (.int .i64), .k .any, .k (.int .i64), .junk, .junk, .junk, .junk, .junk, .junk, .junk, .junk, .junk, .junk, .junk, .junk, .junk, .junk, .junk, .junk, .junk, .junk, .junk, .junk, .junk, .junk, .junk, .junk, .junk, .junk, .junk, .junk, .junk, .junk, .junk, .junk, .junk, .junk, .junk, .junk, .junk, .junk, .junk, .junk, .junk, .junk, .junk, .junk, .junk, .junk, .junk, .junk, .junk, .junk, .junk, .junk, .junk, .junk, .junk, .junk, .junk, .junk, .junk, .junk, .junk, .junk, .junk, .junk, .junk, .junk, .junk, .junk, .junk, .junk, .junk, .junk, .junk, .junk, .junk, .junk, .junk, .junk, .junk, .junk, .junk, .junk, .junk, .junk, .junk, .junk, .junk, .junk, .junk]
abbrev L_spec_ProductColouring_8_ex : List (Nat × List Slot) := [(1, L_spec_ProductColouring_8_e1)]
abbrev L_spec_ProductColouring_8_rt : List Slot := [.junk, .junk, .junk, .junk, .junk, .junk, .junk, .junk, .junk, .junk, .junk, .junk, .junk, .junk, .junk, .junk, .junk, .junk, .junk, .junk, .junk, .junk, .junk, .junk, .junk, .junk, .junk, .junk, .junk, .junk, .junk, .junk, .junk, .junk, .junk, .junk, .junk, .junk, .junk, .junk, .junk, .junk, .junk, .junk, .junk, .junk, .junk, .junk, .junk, .junk, .junk, .junk, .junk, .junk, .junk, .junk, .junk, .junk, .junk, .junk, .junk, .junk, .junk, .junk, .junk, .junk, .junk, .junk, .junk, .junk, .junk, .junk, .junk, .junk, .junk, .junk, .junk, .junk, .junk, .junk, .junk, .junk, .junk, .junk, .junk, .junk, .junk, .junk, .junk, .junk, .junk, .junk, .junk, .junk, .junk, .junk, .junk, .junk]

def L_spec_ProductColouring_8_b (Φ : Post) (u : (Value × Value × Value × Int × Value)) (N : (Value × Value × Value × Int × Value) → Int → World → Prop) (s : Int) (w : World) : Prop :=
  B_spec_ProductColouring_8 u.1 u.2.1 u.2.2.1 u.2.2.2.1 u.2.2.2.2 s N (fun v w => ∀ j : Nat → Value, Φ (.exit 1) (mkT j 0 L_spec_ProductColouring_8_e1 v) w) w

theorem L_spec_ProductColouring_8_eq (j : Nat → Value) (u : (Value × Value × Value × Int × Value)) (s : Int) (N : (Value × Value × Value × Int × Value) → Int → World → Prop) (D1 : (Value × Value × Unit) → World → Prop) (R : (Unit) → World → Prop) (w : World) :
    W Try.prog ty O_spec_ProductColouring_1 (loopAt Try.f24 8) (loopPost L_spec_ProductColouring_8_sp [(1, (⟨L_spec_ProductColouring_8_e1, D1⟩ : Door))] ⟨L_spec_ProductColouring_8_rt, R⟩ (fun v w => N ((fun v => (v.1, v.2.1, v.2.2.1, v.2.2.2.1, v.2.2.2.2.1)) v) ((fun v => v.2.2.2.2.2.1) v) w)) (mkT j 0 L_spec_ProductColouring_8_sp ((fun u s => (u.1, u.2.1, u.2.2.1, u.2.2.2.1, u.2.2.2.2, s, ())) u s)) w =
    B_spec_ProductColouring_8 u.1 u.2.1 u.2.2.1 u.2.2.2.1 u.2.2.2.2 s N D1 w := by
  kernel_rfl

def O_spec_ProductColouring_2 : Code → Post → List SV → World → Prop :=
  orc 8 (loopAt Try.f24 8) L_spec_ProductColouring_8_sp (fun Φ fr w => LOOP (U := (Value × Value × Value × Int × Value)) (S := Int) ((fun v => (v.1, v.2.1, v.2.2.1, v.2.2.2.1, v.2.2.2.2.1)) (extT L_spec_ProductColouring_8_sp fr)) (L_spec_ProductColouring_8_b Φ ((fun v => (v.1, v.2.1, v.2.2.1, v.2.2.2.1, v.2.2.2.2.1)) (extT L_spec_ProductColouring_8_sp fr))) ((fun v => v.2.2.2.2.2.1) (extT L_spec_ProductColouring_8_sp fr)) w) O_spec_ProductColouring_1

theorem O_spec_ProductColouring_2_ok : Sound Try.prog O_spec_ProductColouring_2 :=
  orc_ok O_spec_ProductColouring_1_ok fun Φ fr w hs h => loop_ok (ty := ty) follows O_spec_ProductColouring_1_ok L_spec_ProductColouring_8_sp (fun v => (v.1, v.2.1, v.2.2.1, v.2.2.2.1, v.2.2.2.2.1)) (fun v => v.2.2.2.2.2.1) (fun u s => (u.1, u.2.1, u.2.2.1, u.2.2.2.1, u.2.2.2.2, s, ())) (fun _ => rfl) L_spec_ProductColouring_8_ex L_spec_ProductColouring_8_rt (body := L_spec_ProductColouring_8_b Φ) (fun j u s w N hb => by
    have e := L_spec_ProductColouring_8_eq j u s N (doorOf Φ (.exit 1) L_spec_ProductColouring_8_e1).D (doorOf Φ .ret L_spec_ProductColouring_8_rt).D w
    exact Eq.mpr e hb) hs h

def V_spec_ProductColouring (x0 : Value) (y1 : Value) (w : World) (K : (Value × Int) → World → Prop) : Prop :=
  (Pr Try.prog (Instr.box 28 x0) w (.one .any) fun (x2_2 : Value) w_1 => (Pr Try.prog (Instr.box 28 y1) w_1 (.one .any) fun (y3_4 : Value) w_3 => (Pr Try.prog (Instr.alloc 28 true (.tuple #[])) w_3 (.one .any) fun (x4_6 : Value) w_5 => (QSub Try.prog (Instr.loadAt 28 x2_2) w_5 .any fun (x11_7 : Value) => (Fc Try.prog 64 #[x11_7] w_5 (.one .bool) fun (x12_9 : Bool) w_8 => (((!x12_9) = true → (Pr Try.prog (Instr.build 28 #[]) w_8 (.one .any) fun (x19_11 : Value) w_10 => (PrU Try.prog (Instr.storeAt 28 x4_6 x19_11) w_10 fun w_12 => (QSub Try.prog (Instr.loadAt 28 x4_6) w_12 .any fun (r_14 : Value) => K ((r_14 : Value), (1 : Int)) w_12)))) ∧ ((!x12_9) = false → (QSub Try.prog (Instr.loadAt 28 y3_4) w_8 .any fun (x15_15 : Value) => (Fc Try.prog 64 #[x15_15] w_8 (.one .bool) fun (x16_17 : Bool) w_16 => (((!x16_17) = true → (Pr Try.prog (Instr.build 28 #[]) w_16 (.one .any) fun (x19_19 : Value) w_18 => (PrU Try.prog (Instr.storeAt 28 x4_6 x19_19) w_18 fun w_20 => (QSub Try.prog (Instr.loadAt 28 x4_6) w_20 .any fun (r_22 : Value) => K ((r_22 : Value), (1 : Int)) w_20)))) ∧ ((!x16_17) = false → (QAll Try.prog (Instr.fieldAt 28 x2_2 0) .any fun (x21_23 : Value) => (QSub Try.prog (Instr.loadAt 2 x21_23) w_16 (.int .i64) fun (x22_24 : Int) => (QAll Try.prog (Instr.fieldAt 28 y3_4 0) .any fun (x23_25 : Value) => (QSub Try.prog (Instr.loadAt 2 x23_25) w_16 (.int .i64) fun (x24_26 : Int) => (((decide ((IntKind.i64.wrap (x22_24 * x24_26)) > (17 : Int))) = true → (Pr Try.prog (Instr.build 28 #[]) w_16 (.one .any) fun (x35_28 : Value) w_27 => (PrU Try.prog (Instr.storeAt 28 x4_6 x35_28) w_27 fun w_29 => (QSub Try.prog (Instr.loadAt 28 x4_6) w_29 .any fun (r_31 : Value) => K ((r_31 : Value), (3 : Int)) w_29)))) ∧ ((decide ((IntKind.i64.wrap (x22_24 * x24_26)) > (17 : Int))) = false → (QAll Try.prog (Instr.fieldAt 28 x2_2 1) .any fun (x28_32 : Value) => (QSub Try.prog (Instr.loadAt 2 x28_32) w_16 (.int .i64) fun (x29_33 : Int) => (QAll Try.prog (Instr.fieldAt 28 y3_4 1) .any fun (x30_34 : Value) => (QSub Try.prog (Instr.loadAt 2 x30_34) w_16 (.int .i64) fun (x31_35 : Int) => (((decide ((IntKind.i64.wrap (x29_33 + x31_35)) > (4 : Int))) = true → (Pr Try.prog (Instr.build 28 #[]) w_16 (.one .any) fun (x35_37 : Value) w_36 => (PrU Try.prog (Instr.storeAt 28 x4_6 x35_37) w_36 fun w_38 => (QSub Try.prog (Instr.loadAt 28 x4_6) w_38 .any fun (r_40 : Value) => K ((r_40 : Value), (3 : Int)) w_38)))) ∧ ((decide ((IntKind.i64.wrap (x29_33 + x31_35)) > (4 : Int))) = false → (QAll Try.prog (Instr.fieldAt 28 y3_4 0) .any fun (x36_41 : Value) => (QSub Try.prog (Instr.loadAt 2 x36_41) w_16 (.int .i64) fun (x37_42 : Int) => (QAll Try.prog (Instr.fieldAt 28 x2_2 0) .any fun (x38_43 : Value) => (QSub Try.prog (Instr.loadAt 2 x38_43) w_16 (.int .i64) fun (x39_44 : Int) => (QAll Try.prog (Instr.fieldAt 28 x2_2 1) .any fun (x42_45 : Value) => (QSub Try.prog (Instr.loadAt 2 x42_45) w_16 (.int .i64) fun (x43_46 : Int) => (QAll Try.prog (Instr.fieldAt 28 y3_4 1) .any fun (x44_47 : Value) => (QSub Try.prog (Instr.loadAt 2 x44_47) w_16 (.int .i64) fun (x45_48 : Int) => (Pr Try.prog (Instr.build 28 #[(0, (.int .i64 (IntKind.i64.wrap (x39_44 * x37_42)))), (1, (.int .i64 (IntKind.i64.wrap (x43_46 + x45_48))))]) w_16 (.one .any) fun (x47_50 : Value) w_49 => (Pr Try.prog (Instr.alloc 28 true (.tuple #[])) w_49 (.one .any) fun (out7_52 : Value) w_51 => (PrU Try.prog (Instr.storeAt 28 out7_52 x47_50) w_51 fun w_53 => (At (loopAt Try.f24 8) (loopAt Try.f24 8) (LOOP (U := (Value × Value × Value × Int × Value)) (S := Int) ((x2_2 : Value), (y3_4 : Value), (x4_6 : Value), x37_42, (out7_52 : Value)) (fun N_95 s_96 w_97 => B_spec_ProductColouring_8 (x2_2 : Value) (y3_4 : Value) (x4_6 : Value) x37_42 (out7_52 : Value) s_96 N_95 (fun (v_88 : (Value × Value × Unit)) w_89 => ∀ _j_90 : Nat → Value, (QSub Try.prog (Instr.loadAt 28 v_88.2.1) w_89 .any fun (x97_91 : Value) => (PrU Try.prog (Instr.storeAt 28 v_88.1 x97_91) w_89 fun w_92 => (QSub Try.prog (Instr.loadAt 28 v_88.1) w_92 .any fun (r_94 : Value) => K ((r_94 : Value), (0 : Int)) w_92)))) w_97) (1 : Int) w_53))))))))))))))))))))))))))))))))))))

theorem eq_spec_ProductColouring (x0 : Value) (y1 : Value) (w : World) (K : (Value × Int) → World → Prop) :
    W Try.prog ty O_spec_ProductColouring_2 (bodyOf Try.f24) (fnPost Try.prog Try.f24.results.toList (.two .any (.int .i64)) K) (frame0 [x0, y1] 98) w = V_spec_ProductColouring x0 y1 w K := by
  kernel_rfl

theorem body_spec_ProductColouring : Try.f24.body = some (bodyOf Try.f24) := by kernel_rfl
theorem name_spec_ProductColouring : (Try.f24.name == "runtime.NumGoroutine") = false := by kernel_rfl

theorem walk_spec_ProductColouring (x0 : Value) (y1 : Value) {w : World} {K : (Value × Int) → World → Prop} (h : V_spec_ProductColouring x0 y1 w K) : Fc Try.prog 24 #[x0, y1] w (.two .any (.int .i64)) K :=
  fn_ok follows O_spec_ProductColouring_2_ok Try.func24 name_spec_ProductColouring body_spec_ProductColouring Try.ntmps24 [x0, y1] (Eq.mpr (eq_spec_ProductColouring x0 y1 w K) h)

-- uses S7Prod
theorem c_spec_ProductColouring {x y : Col} {w : World} {K : Value × Int → World → Prop} (ox : x.Ok) (oy : y.Ok)
    (hK : ∀ w', Below w.heap.size w w' → (prodOf x y).1.Ok → K ((prodOf x y).1.val, (prodOf x y).2) w') : Fc Try.prog F_spec_ProductColouring #[x.val, y.val] w (.two .any (.int .i64)) K := by
  have hK := fun w' hb => hK w' hb (prodOf_ok ox oy)
  unfold prodOf at hK
  refine walk_spec_ProductColouring _ _ (col_box fun b1 w1 n1 ax => col_box fun b2 w2 n2 ay => c_alloc fun p w3 hb3 hv => ?_)
  have q2 := n1.below.trans (n2.below.mono n1.below.size)
  have q3 := q2.trans (hb3.mono q2.size)
  have ax3 := (ax.keep n2.below).keep hb3
  have ay3 := ay.keep hb3
  have hs2 := q2.size; have hs3 := hb3.size
  refine col_all ox ax3 (c_spec_l01Is ox fun w4 hb4 => ⟨fun e => ?_, fun e1 => ?_⟩)
  · have hs4 := hb4.size
    rw [if_neg (fun hh => notd_t e hh.1)] at hK
    exact c_none (hv.keep hb4) (by omega) fun w' hb' => hK w' ((q3.trans (hb4.mono q3.size)).trans (hb'.mono hs2))
  have hx := notd_f e1
  have hs4 := hb4.size
  have q4 := q3.trans (hb4.mono q3.size)
  refine col_all oy (ay3.keep hb4) (c_spec_l01Is oy fun w5 hb5 => ?_)
  have hs5 := hb5.size
  have q5 := q4.trans (hb5.mono q4.size)
  have hv5 := (hv.keep hb4).keep hb5
  refine ⟨fun e => ?_, fun e2 => ?_⟩
  · rw [if_neg (fun hh => notd_t e hh.2)] at hK
    exact c_none hv5 (by omega) fun w' hb' => hK w' (q5.trans (hb'.mono hs2))
  have hy := notd_f e2
  rw [if_pos ⟨hx, hy⟩] at hK
  have x1 := hx.1; have x2 := hx.2.1; have y1 := hy.1; have y2 := hy.2.1; have xk := hx.2.2.1; have yk := hy.2.2.1; have xk4 := hx.2.2.2.1; have yk4 := hy.2.2.2.1
  have hmul : 1 ≤ x.n * y.n ∧ x.n * y.n ≤ 289 := ⟨Int.mul_le_mul (a := 1) (b := 1) (c := x.n) (d := y.n) (by omega) (by omega) (by omega) (by omega), Int.mul_le_mul (a := x.n) (b := y.n) (c := 17) (d := 17) (by omega) (by omega) (by omega) (by omega)⟩
  have ax5 := (ax3.keep hb4).keep hb5
  have ay5 := (ay3.keep hb4).keep hb5
  refine col_n ax5 (col_n ay5 ?_)
  rw [wrap_small (n := x.n * y.n) (by omega) (by omega)]
  refine ⟨fun e => ?_, fun e3 => col_k ax5 (col_k ay5 ?_)⟩
  · rw [if_neg (fun hh => by have := dec_t e; have := hh.1; omega)] at hK
    exact c_none hv5 (by omega) fun w' hb' => hK w' (q5.trans (hb'.mono hs2))
  rw [wrap_small (n := x.k + y.k) (by omega) (by omega)]
  refine ⟨fun e => ?_, fun e4 => col_n ay5 (col_n ax5 (col_k ax5 (col_k ay5 ?_)))⟩
  · rw [if_neg (fun hh => by have := dec_t e; have := hh.2; omega)] at hK
    exact c_none hv5 (by omega) fun w' hb' => hK w' (q5.trans (hb'.mono hs2))
  have e3 := dec_f e3; have e4 := dec_f e4
  have hp : ProdIs x y := ⟨by omega, by omega⟩
  rw [if_pos hp] at hK
  rw [wrap_small (n := x.n * y.n) (by omega) (by omega), wrap_small (n := x.k + y.k) (by omega) (by omega)]
  have hok := prod_ok hx hy ox oy hp
  have bd := prod_bd hx hy ox oy hp
  have hbase : Below w2.heap.size w2 w5 := (hb3.trans (hb4.mono hs3)).trans (hb5.mono (by omega))
  refine tri_from (w := w2) (prodG x y) hbase hv5 fun b w6 ht => ?_
  have hkeepx : ∀ w', Below w2.heap.size w2 w' → ColAt w' (ptr b1 0) x := fun w' hb => (ax.keep n2.below).keep hb
  have hkeepy : ∀ w', Below w2.heap.size w2 w' → ColAt w' (ptr b2 0) y := fun w' hb => ay.keep hb
  generalize hN : x.n * y.n = n at *
  refine lp (fun j w' => 1 ≤ j ∧ j ≤ n ∧ Tri w2 w' p b n (x.k + y.k) (prodG x y) (edgesOf j)) (fun j _ => (n - j).toNat) ⟨by omega, by omega, ht⟩ ?_
  rintro j w7 N ⟨j0, j1, h7⟩ hNx
  unfold B_spec_ProductColouring_8
  refine col_n (c := ⟨n, x.k + y.k, _⟩) (blk_row h7.blk) ⟨fun hlt => ?_, fun hge => ?_⟩
  · have hlt : j < n := dec_t hlt
    refine lp (fun i w' => 0 ≤ i ∧ i ≤ j ∧ Tri w2 w' p b n (x.k + y.k) (prodG x y) (edgesOf j + i)) (fun i _ => (j - i).toNat) ⟨by omega, by omega, by rw [Int.add_zero]; exact h7⟩ ?_
    rintro i w8 N' ⟨i0, i1, h8⟩ hN'
    unfold B_spec_ProductColouring_11
    refine ⟨fun hlt2 w9 hd9 => ⟨by omega, by omega, ?_⟩, fun hge2 => ?_⟩
    · have hlt2 := dec_t hlt2
      have h9 := h8.keep (hd9.below w8.heap.size)
      have hpa := prod_at (n := x.n) (m := y.n) y1 i0 hlt2 (by omega)
      have bd1 := bd i j i0 hlt2 hlt
      have ei : Int.tdiv i y.n = i / y.n := Int.tdiv_eq_ediv_of_nonneg i0
      have ej : Int.tdiv j y.n = j / y.n := Int.tdiv_eq_ediv_of_nonneg (by omega)
      have mi : Int.tmod i y.n = i % y.n := Int.tmod_eq_emod_of_nonneg i0
      have mj : Int.tmod j y.n = j % y.n := Int.tmod_eq_emod_of_nonneg (by omega)
      have di := hpa.1; have dj := hpa.2.1; have ri := hpa.2.2.1; have rj := hpa.2.2.2.1
      have fin : ∀ w', Tri w2 w' p b n (x.k + y.k) (prodG x y) (edgesOf j + (i + 1)) → N' (ptr b1 0, ptr b2 0, p, y.n, ptr b 0, j) (IntKind.i64.wrap (i + 1)) w' := fun w' h' => by
        rw [wrap_small (by omega) (by omega)]
        exact hN' _ _ ⟨by omega, by omega, h'⟩ (by omega)
      have hg : prodG x y i j = if i / y.n ≠ j / y.n then x.e (num (i / y.n) (j / y.n)).toNat else x.k + y.e (num (i % y.n) (j % y.n)).toNat := rfl
      rw [ei, ej, wrap_small (n := i / y.n) (by omega) (by omega), wrap_small (n := j / y.n) (by omega) (by omega)]
      refine ⟨fun hne w10 hd10 => ?_, fun he w10 hd10 => ?_⟩
      · have hne := ne_t hne
        rw [if_pos hne] at hg
        have h10 := h9.keep (hd10.below w9.heap.size)
        refine col_all ox (hkeepx _ h10.bel) ⟨by omega, by omega, fldp f2 (c_spec_l01Edge i0 (by omega) (by omega) (by omega) ⟨Below.refl _ _, ?_⟩)⟩
        refine c_spec_l01At ox di.1 (by omega) dj.1 (by omega) hne fun w11 hb11 => ?_
        rw [← hg]
        exact int_u8 bd1.1 bd1.2 ((h10.keep hb11).put i0 hlt2 (by omega) fun w12 h12 => fin w12 h12)
      · have he := ne_f he
        rw [if_neg (by omega)] at hg
        have h10 := h9.keep (hd10.below w9.heap.size)
        refine col_k (hkeepx _ h10.bel) (col_all oy (hkeepy _ h10.bel) ⟨by omega, by omega, fldp f2 (c_spec_l01Edge i0 (by omega) (by omega) (by omega) ⟨Below.refl _ _, ?_⟩)⟩)
        rw [mi, mj]
        refine c_spec_l01At oy ri.1 (by omega) rj.1 (by omega) (hpa.2.2.2.2 he) fun w11 hb11 => ⟨hb11, ?_⟩
        rw [wrap_small (by omega) (by omega), ← hg]
        exact int_u8 bd1.1 bd1.2 ((h10.keep hb11).put i0 hlt2 (by omega) fun w12 h12 => fin w12 h12)
    · have hge2 := dec_f hge2
      have : i = j := by omega
      subst this
      intro _
      show N _ (IntKind.i64.wrap (i + 1)) w8
      rw [wrap_small (by omega) (by omega)]
      exact hNx _ _ ⟨by omega, by omega, by rw [edgesOf_succ]; exact h8⟩ (by omega)
  · have hge : ¬ j < n := dec_f hge
    have : j = n := by omega
    subst this
    intro _
    exact tri_end hok h7 fun w' hb => hK w' (q2.trans (hb.mono hs2))

end Go.Proofs.Ytdkodhonaoecnaa
