/- The reading of impl_edgeCycles, and its contract. No condition. -/
import Derived.Test.YtdkodhonaoecnaaTy
import Derived.Test.YtdkodhonaoecnaaS9Met
import Derived.Test.YtdkodhonaoecnaaFimplUnumber
import Derived.Test.YtdkodhonaoecnaaFimplUsizeS
namespace Go.Proofs.Ytdkodhonaoecnaa
open Go Go.RowKit Eng Mem
set_option linter.unusedVariables false
set_option maxRecDepth 100000
def B_impl_edgeCycles_11 (p0 : Value) (many3 : Int) (met4 : Value) (b5 : Int) (x11 : Int) (x12 : Int) (x15 : Int) (x16 : Int) (i7 : Int) (j8 : Int) (N : (Value × Int × Value × Int × Int × Int × Int × Int) → (Int × Int) → World → Prop) (D4 : (Value × Int × Value × Int × Int × Int × Int × Int × Unit) → World → Prop) (w : World) : Prop :=
  (Fc Try.prog 101 #[(.int .i64 i7), (.int .i64 j8)] w (.one (.int .i64)) fun (x30_14 : Int) w_13 => (QAll Try.prog (Instr.indexAt 90 met4 (.int .i64 x30_14)) .any fun (x31_15 : Value) => (QSub Try.prog (Instr.loadAt 4 x31_15) w_13 .bool fun (x32_16 : Bool) => (((!x32_16) = true → (Fc Try.prog 101 #[(.int .i64 i7), (.int .i64 j8)] w_13 (.one (.int .i64)) fun (x44_18 : Int) w_17 => (QAll Try.prog (Instr.indexAt 90 met4 (.int .i64 x44_18)) .any fun (x45_19 : Value) => (PrU Try.prog (Instr.storeAt 4 x45_19 (.bool true)) w_17 fun w_20 => (∀ w_22, Drew w_20 w_22 → (QAll Try.prog (Instr.indexAt 25 p0 (.int .i64 i7)) .any fun (x36_23 : Value) => (QSub Try.prog (Instr.loadAt 2 x36_23) w_22 (.int .i64) fun (x37_24 : Int) => (QAll Try.prog (Instr.indexAt 25 p0 (.int .i64 j8)) .any fun (x40_25 : Value) => (QSub Try.prog (Instr.loadAt 2 x40_25) w_22 (.int .i64) fun (x41_26 : Int) => N ((p0 : Value), many3, (met4 : Value), b5, x11, x12, x15, x16) (x37_24, x41_26) w_22))))))))) ∧ ((!x32_16) = false → D4 ((p0 : Value), many3, (met4 : Value), b5, x11, x12, x15, x16, ()) w_13)))))

abbrev L_impl_edgeCycles_11_e4 : List Slot := [.k .any, .junk, .junk, .k (.int .i64), .k .any, .k (.int .i64), .junk, .junk, .junk, .junk, .junk, .k (.int .i64), .k (.int .i64), .junk, .junk, .k (.int .i64), .k (.int .i64), .junk, .junk, .junk, .junk, .junk, .junk, .junk, .junk, .junk, .junk, .junk, .junk, .junk, .junk, .junk, .junk, .junk, .junk, .junk, .junk, .junk, .junk, .junk, .junk, .junk, .junk, .junk, .junk, .junk, .junk, .junk, .junk]

abbrev L_impl_edgeCycles_11_sp : List Slot := [.k .any, .junk, .junk, .k (.int .i64), .k .any, .k (.int .i64), .junk, .k (.int .i64), .k (.int .i64), .junk, .junk, .k (.int .i64), .k (.int .i64), .junk, .junk, .k (.int .i64), .k (.int .i64), .junk, .junk, .junk, .junk, .junk, .junk, .junk, .junk, .junk, .junk, .junk, .junk, .junk, .junk, .junk, .junk, .junk, .junk, .junk, .junk, .junk, .junk, .junk, .junk, .junk, .junk, .junk, .junk, .junk, .junk, .junk, .junk]
abbrev L_impl_edgeCycles_11_ex : List (Nat × List Slot) := [(4, L_impl_edgeCycles_11_e4)]
abbrev L_impl_edgeCycles_11_rt : List Slot := [.junk, .junk, .junk, .junk, .junk, .junk, .junk, .junk, .junk, .junk, .junk, .junk, .junk, .junk, .junk, .junk, .junk, .junk, .junk, .junk, .junk, .junk, .junk, .junk, .junk, .junk, .junk, .junk, .junk, .junk, .junk, .junk, .junk, .junk, .junk, .junk, .junk, .junk, .junk, .junk, .junk, .junk, .junk, .junk, .junk, .junk, .junk, .junk, .junk]

def L_impl_edgeCycles_11_b (Φ : Post) (u : (Value × Int × Value × Int × Int × Int × Int × Int)) (N : (Value × Int × Value × Int × Int × Int × Int × Int) → (Int × Int) → World → Prop) (s : (Int × Int)) (w : World) : Prop :=
  B_impl_edgeCycles_11 u.1 u.2.1 u.2.2.1 u.2.2.2.1 u.2.2.2.2.1 u.2.2.2.2.2.1 u.2.2.2.2.2.2.1 u.2.2.2.2.2.2.2 s.1 s.2 N (fun v w => ∀ j : Nat → Value, Φ (.exit 4) (mkT j 0 L_impl_edgeCycles_11_e4 v) w) w

theorem L_impl_edgeCycles_11_eq (j : Nat → Value) (u : (Value × Int × Value × Int × Int × Int × Int × Int)) (s : (Int × Int)) (N : (Value × Int × Value × Int × Int × Int × Int × Int) → (Int × Int) → World → Prop) (D4 : (Value × Int × Value × Int × Int × Int × Int × Int × Unit) → World → Prop) (R : (Unit) → World → Prop) (w : World) :
    W Try.prog ty (fun _ _ _ _ => False) (loopAt Try.f50 11) (loopPost L_impl_edgeCycles_11_sp [(4, (⟨L_impl_edgeCycles_11_e4, D4⟩ : Door))] ⟨L_impl_edgeCycles_11_rt, R⟩ (fun v w => N ((fun v => (v.1, v.2.1, v.2.2.1, v.2.2.2.1, v.2.2.2.2.2.2.1, v.2.2.2.2.2.2.2.1, v.2.2.2.2.2.2.2.2.1, v.2.2.2.2.2.2.2.2.2.1)) v) ((fun v => (v.2.2.2.2.1, v.2.2.2.2.2.1)) v) w)) (mkT j 0 L_impl_edgeCycles_11_sp ((fun u s => (u.1, u.2.1, u.2.2.1, u.2.2.2.1, s.1, s.2, u.2.2.2.2.1, u.2.2.2.2.2.1, u.2.2.2.2.2.2.1, u.2.2.2.2.2.2.2, ())) u s)) w =
    B_impl_edgeCycles_11 u.1 u.2.1 u.2.2.1 u.2.2.2.1 u.2.2.2.2.1 u.2.2.2.2.2.1 u.2.2.2.2.2.2.1 u.2.2.2.2.2.2.2 s.1 s.2 N D4 w := by
  kernel_rfl

def O_impl_edgeCycles_1 : Code → Post → List SV → World → Prop :=
  orc 11 (loopAt Try.f50 11) L_impl_edgeCycles_11_sp (fun Φ fr w => LOOP (U := (Value × Int × Value × Int × Int × Int × Int × Int)) (S := (Int × Int)) ((fun v => (v.1, v.2.1, v.2.2.1, v.2.2.2.1, v.2.2.2.2.2.2.1, v.2.2.2.2.2.2.2.1, v.2.2.2.2.2.2.2.2.1, v.2.2.2.2.2.2.2.2.2.1)) (extT L_impl_edgeCycles_11_sp fr)) (L_impl_edgeCycles_11_b Φ ((fun v => (v.1, v.2.1, v.2.2.1, v.2.2.2.1, v.2.2.2.2.2.2.1, v.2.2.2.2.2.2.2.1, v.2.2.2.2.2.2.2.2.1, v.2.2.2.2.2.2.2.2.2.1)) (extT L_impl_edgeCycles_11_sp fr))) ((fun v => (v.2.2.2.2.1, v.2.2.2.2.2.1)) (extT L_impl_edgeCycles_11_sp fr)) w) (fun _ _ _ _ => False)

theorem O_impl_edgeCycles_1_ok : Sound Try.prog O_impl_edgeCycles_1 :=
  orc_ok (sound_none _) fun Φ fr w hs h => loop_ok (ty := ty) follows (sound_none _) L_impl_edgeCycles_11_sp (fun v => (v.1, v.2.1, v.2.2.1, v.2.2.2.1, v.2.2.2.2.2.2.1, v.2.2.2.2.2.2.2.1, v.2.2.2.2.2.2.2.2.1, v.2.2.2.2.2.2.2.2.2.1)) (fun v => (v.2.2.2.2.1, v.2.2.2.2.2.1)) (fun u s => (u.1, u.2.1, u.2.2.1, u.2.2.2.1, s.1, s.2, u.2.2.2.2.1, u.2.2.2.2.2.1, u.2.2.2.2.2.2.1, u.2.2.2.2.2.2.2, ())) (fun _ => rfl) L_impl_edgeCycles_11_ex L_impl_edgeCycles_11_rt (body := L_impl_edgeCycles_11_b Φ) (fun j u s w N hb => by
    have e := L_impl_edgeCycles_11_eq j u s N (doorOf Φ (.exit 4) L_impl_edgeCycles_11_e4).D (doorOf Φ .ret L_impl_edgeCycles_11_rt).D w
    exact Eq.mpr e hb) hs h

def B_impl_edgeCycles_6 (p0 : Value) (met4 : Value) (b5 : Int) (x11 : Int) (x12 : Int) (x15 : Int) (many3 : Int) (x16 : Int) (N : (Value × Value × Int × Int × Int × Int) → (Int × Int) → World → Prop) (D2 : (Value × Int × Value × Int × Int × Unit) → World → Prop) (w : World) : Prop :=
  (((decide (x16 < x15)) = true → (Fc Try.prog 101 #[(.int .i64 x16), (.int .i64 b5)] w (.one (.int .i64)) fun (x21_10 : Int) w_9 => (QAll Try.prog (Instr.indexAt 90 met4 (.int .i64 x21_10)) .any fun (x22_11 : Value) => (QSub Try.prog (Instr.loadAt 4 x22_11) w_9 .bool fun (x23_12 : Bool) => ((x23_12 = true → N ((p0 : Value), (met4 : Value), b5, x11, x12, x15) (many3, (IntKind.i64.wrap (x16 + (1 : Int)))) w_9) ∧ (x23_12 = false → (At (loopAt Try.f50 11) (loopAt Try.f50 11) (LOOP (U := (Value × Int × Value × Int × Int × Int × Int × Int)) (S := (Int × Int)) ((p0 : Value), (IntKind.i64.wrap (many3 + (1 : Int))), (met4 : Value), b5, x11, x12, x15, x16) (fun N_30 s_31 w_32 => B_impl_edgeCycles_11 (p0 : Value) (IntKind.i64.wrap (many3 + (1 : Int))) (met4 : Value) b5 x11 x12 x15 x16 s_31.1 s_31.2 N_30 (fun (v_27 : (Value × Int × Value × Int × Int × Int × Int × Int × Unit)) w_28 => ∀ _j_29 : Nat → Value, N ((v_27.1 : Value), (v_27.2.2.1 : Value), v_27.2.2.2.1, v_27.2.2.2.2.1, v_27.2.2.2.2.2.1, v_27.2.2.2.2.2.2.1) (v_27.2.1, (IntKind.i64.wrap (v_27.2.2.2.2.2.2.2.1 + (1 : Int)))) w_28) w_32) (x16, b5) w_9)))))))) ∧ ((decide (x16 < x15)) = false → D2 ((p0 : Value), many3, (met4 : Value), x11, x12, ()) w))

abbrev L_impl_edgeCycles_6_e2 : List Slot := [.k .any, .junk, .junk, .k (.int .i64), .k .any, .junk, .junk, .junk, .junk, .junk, .junk, .k (.int .i64), .k (.int .i64), .junk, .junk, .junk, .junk, .junk, .junk, .junk, .junk, .junk, .junk, .junk, .junk, .junk, .junk, .junk, .junk, .junk, .junk, .junk, .junk, .junk, .junk, .junk, .junk, .junk, .junk, .junk, .junk, .junk, .junk, .junk, .junk, .junk, .junk, .junk, .junk]

abbrev L_impl_edgeCycles_6_sp : List Slot := [.k .any, .junk, .junk, .k (.int .i64), .k .any, .k (.int .i64), .junk, .junk, .junk, .junk, .junk, .k (.int .i64), .k (.int .i64), .junk, .junk, .k (.int .i64), .k (.int .i64), .junk, .junk, .junk, .junk, .junk, .junk, .junk, .junk, .junk, .junk, .junk, .junk, .junk, .junk, .junk, .junk, .junk, .junk, .junk, .junk, .junk, .junk, .junk, .junk, .junk, .junk, .junk, .junk, .junk, .junk, .junk, .junk]
abbrev L_impl_edgeCycles_6_ex : List (Nat × List Slot) := [(2, L_impl_edgeCycles_6_e2)]
abbrev L_impl_edgeCycles_6_rt : List Slot := [.junk, .junk, .junk, .junk, .junk, .junk, .junk, .junk, .junk, .junk, .junk, .junk, .junk, .junk, .junk, .junk, .junk, .junk, .junk, .junk, .junk, .junk, .junk, .junk, .junk, .junk, .junk, .junk, .junk, .junk, .junk, .junk, .junk, .junk, .junk, .junk, .junk, .junk, .junk, .junk, .junk, .junk, .junk, .junk, .junk, .junk, .junk, .junk, .junk]

def L_impl_edgeCycles_6_b (Φ : Post) (u : (Value × Value × Int × Int × Int × Int)) (N : (Value × Value × Int × Int × Int × Int) → (Int × Int) → World → Prop) (s : (Int × Int)) (w : World) : Prop :=
  B_impl_edgeCycles_6 u.1 u.2.1 u.2.2.1 u.2.2.2.1 u.2.2.2.2.1 u.2.2.2.2.2 s.1 s.2 N (fun v w => ∀ j : Nat → Value, Φ (.exit 2) (mkT j 0 L_impl_edgeCycles_6_e2 v) w) w

theorem L_impl_edgeCycles_6_eq (j : Nat → Value) (u : (Value × Value × Int × Int × Int × Int)) (s : (Int × Int)) (N : (Value × Value × Int × Int × Int × Int) → (Int × Int) → World → Prop) (D2 : (Value × Int × Value × Int × Int × Unit) → World → Prop) (R : (Unit) → World → Prop) (w : World) :
    W Try.prog ty O_impl_edgeCycles_1 (loopAt Try.f50 6) (loopPost L_impl_edgeCycles_6_sp [(2, (⟨L_impl_edgeCycles_6_e2, D2⟩ : Door))] ⟨L_impl_edgeCycles_6_rt, R⟩ (fun v w => N ((fun v => (v.1, v.2.2.1, v.2.2.2.1, v.2.2.2.2.1, v.2.2.2.2.2.1, v.2.2.2.2.2.2.1)) v) ((fun v => (v.2.1, v.2.2.2.2.2.2.2.1)) v) w)) (mkT j 0 L_impl_edgeCycles_6_sp ((fun u s => (u.1, s.1, u.2.1, u.2.2.1, u.2.2.2.1, u.2.2.2.2.1, u.2.2.2.2.2, s.2, ())) u s)) w =
    B_impl_edgeCycles_6 u.1 u.2.1 u.2.2.1 u.2.2.2.1 u.2.2.2.2.1 u.2.2.2.2.2 s.1 s.2 N D2 w := by
  kernel_rfl

def O_impl_edgeCycles_2 : Code → Post → List SV → World → Prop :=
  orc 6 (loopAt Try.f50 6) L_impl_edgeCycles_6_sp (fun Φ fr w => LOOP (U := (Value × Value × Int × Int × Int × Int)) (S := (Int × Int)) ((fun v => (v.1, v.2.2.1, v.2.2.2.1, v.2.2.2.2.1, v.2.2.2.2.2.1, v.2.2.2.2.2.2.1)) (extT L_impl_edgeCycles_6_sp fr)) (L_impl_edgeCycles_6_b Φ ((fun v => (v.1, v.2.2.1, v.2.2.2.1, v.2.2.2.2.1, v.2.2.2.2.2.1, v.2.2.2.2.2.2.1)) (extT L_impl_edgeCycles_6_sp fr))) ((fun v => (v.2.1, v.2.2.2.2.2.2.2.1)) (extT L_impl_edgeCycles_6_sp fr)) w) O_impl_edgeCycles_1

theorem O_impl_edgeCycles_2_ok : Sound Try.prog O_impl_edgeCycles_2 :=
  orc_ok O_impl_edgeCycles_1_ok fun Φ fr w hs h => loop_ok (ty := ty) follows O_impl_edgeCycles_1_ok L_impl_edgeCycles_6_sp (fun v => (v.1, v.2.2.1, v.2.2.2.1, v.2.2.2.2.1, v.2.2.2.2.2.1, v.2.2.2.2.2.2.1)) (fun v => (v.2.1, v.2.2.2.2.2.2.2.1)) (fun u s => (u.1, s.1, u.2.1, u.2.2.1, u.2.2.2.1, u.2.2.2.2.1, u.2.2.2.2.2, s.2, ())) (fun _ => rfl) L_impl_edgeCycles_6_ex L_impl_edgeCycles_6_rt (body := L_impl_edgeCycles_6_b Φ) (fun j u s w N hb => by
    have e := L_impl_edgeCycles_6_eq j u s N (doorOf Φ (.exit 2) L_impl_edgeCycles_6_e2).D (doorOf Φ .ret L_impl_edgeCycles_6_rt).D w
    exact Eq.mpr e hb) hs h

def B_impl_edgeCycles_3 (p0 : Value) (met4 : Value) (x11 : Int) (many3 : Int) (x12 : Int) (N : (Value × Value × Int) → (Int × Int) → World → Prop) (D0 : (Int × Unit) → World → Prop) (w : World) : Prop :=
  (((decide (x12 < x11)) = true → (At (loopAt Try.f50 6) (loopAt Try.f50 6) (LOOP (U := (Value × Value × Int × Int × Int × Int)) (S := (Int × Int)) ((p0 : Value), (met4 : Value), x12, x11, x12, x12) (fun N_36 s_37 w_38 => B_impl_edgeCycles_6 (p0 : Value) (met4 : Value) x12 x11 x12 x12 s_37.1 s_37.2 N_36 (fun (v_33 : (Value × Int × Value × Int × Int × Unit)) w_34 => ∀ _j_35 : Nat → Value, N ((v_33.1 : Value), (v_33.2.2.1 : Value), v_33.2.2.2.1) (v_33.2.1, (IntKind.i64.wrap (v_33.2.2.2.2.1 + (1 : Int)))) w_34) w_38) (many3, (0 : Int)) w))) ∧ ((decide (x12 < x11)) = false → D0 (many3, ()) w))

abbrev L_impl_edgeCycles_3_e0 : List Slot := [.junk, .junk, .junk, .k (.int .i64), .junk, .junk, .junk, .junk, .junk, .junk, .junk, .junk, .junk, .junk, .junk, .junk, .junk, .junk, .junk, .junk, .junk, .junk, .junk, .junk, .junk, .junk, .junk, .junk, .junk, .junk, .junk, .junk, .junk, .junk, .junk, .junk, .junk, .junk, .junk, .junk, .junk, .junk, .junk, .junk, .junk, .junk, .junk, .junk, .junk]

abbrev L_impl_edgeCycles_3_sp : List Slot := [.k .any, .junk, .junk, .k (.int .i64), .k .any, .junk, .junk, .junk, .junk, .junk, .junk, .k (.int .i64), .k (.int .i64), .junk, .junk, .junk, .junk, .junk, .junk, .junk, .junk, .junk, .junk, .junk, .junk, .junk, .junk, .junk, .junk, .junk, .junk, .junk, .junk, .junk, .junk, .junk, .junk, .junk, .junk, .junk, .junk, .junk, .junk, .junk, .junk, .junk, .junk, .junk, .junk]
abbrev L_impl_edgeCycles_3_ex : List (Nat × List Slot) := [(0, L_impl_edgeCycles_3_e0)]
abbrev L_impl_edgeCycles_3_rt : List Slot := [.junk, .junk, .junk, .junk, .junk, .junk, .junk, .junk, .junk, .junk, .junk, .junk, .junk, .junk, .junk, .junk, .junk, .junk, .junk, .junk, .junk, .junk, .junk, .junk, .junk, .junk, .junk, .junk, .junk, .junk, .junk, .junk, .junk, .junk, .junk, .junk, .junk, .junk, .junk, .junk, .junk, .junk, .junk, .junk, .junk, .junk, .junk, .junk, .junk]

def L_impl_edgeCycles_3_b (Φ : Post) (u : (Value × Value × Int)) (N : (Value × Value × Int) → (Int × Int) → World → Prop) (s : (Int × Int)) (w : World) : Prop :=
  B_impl_edgeCycles_3 u.1 u.2.1 u.2.2 s.1 s.2 N (fun v w => ∀ j : Nat → Value, Φ (.exit 0) (mkT j 0 L_impl_edgeCycles_3_e0 v) w) w

theorem L_impl_edgeCycles_3_eq (j : Nat → Value) (u : (Value × Value × Int)) (s : (Int × Int)) (N : (Value × Value × Int) → (Int × Int) → World → Prop) (D0 : (Int × Unit) → World → Prop) (R : (Unit) → World → Prop) (w : World) :
    W Try.prog ty O_impl_edgeCycles_2 (loopAt Try.f50 3) (loopPost L_impl_edgeCycles_3_sp [(0, (⟨L_impl_edgeCycles_3_e0, D0⟩ : Door))] ⟨L_impl_edgeCycles_3_rt, R⟩ (fun v w => N ((fun v => (v.1, v.2.2.1, v.2.2.2.1)) v) ((fun v => (v.2.1, v.2.2.2.2.1)) v) w)) (mkT j 0 L_impl_edgeCycles_3_sp ((fun u s => (u.1, s.1, u.2.1, u.2.2, s.2, ())) u s)) w =
    B_impl_edgeCycles_3 u.1 u.2.1 u.2.2 s.1 s.2 N D0 w := by
  kernel_rfl

def O_impl_edgeCycles_3 : Code → Post → List SV → World → Prop :=
  orc 3 (loopAt Try.f50 3) L_impl_edgeCycles_3_sp (fun Φ fr w => LOOP (U := (Value × Value × Int)) (S := (Int × Int)) ((fun v => (v.1, v.2.2.1, v.2.2.2.1)) (extT L_impl_edgeCycles_3_sp fr)) (L_impl_edgeCycles_3_b Φ ((fun v => (v.1, v.2.2.1, v.2.2.2.1)) (extT L_impl_edgeCycles_3_sp fr))) ((fun v => (v.2.1, v.2.2.2.2.1)) (extT L_impl_edgeCycles_3_sp fr)) w) O_impl_edgeCycles_2

theorem O_impl_edgeCycles_3_ok : Sound Try.prog O_impl_edgeCycles_3 :=
  orc_ok O_impl_edgeCycles_2_ok fun Φ fr w hs h => loop_ok (ty := ty) follows O_impl_edgeCycles_2_ok L_impl_edgeCycles_3_sp (fun v => (v.1, v.2.2.1, v.2.2.2.1)) (fun v => (v.2.1, v.2.2.2.2.1)) (fun u s => (u.1, s.1, u.2.1, u.2.2, s.2, ())) (fun _ => rfl) L_impl_edgeCycles_3_ex L_impl_edgeCycles_3_rt (body := L_impl_edgeCycles_3_b Φ) (fun j u s w N hb => by
    have e := L_impl_edgeCycles_3_eq j u s N (doorOf Φ (.exit 0) L_impl_edgeCycles_3_e0).D (doorOf Φ .ret L_impl_edgeCycles_3_rt).D w
    exact Eq.mpr e hb) hs h

def V_impl_edgeCycles (p0 : Value) (w : World) (K : Int → World → Prop) : Prop :=
  (Pr Try.prog (Instr.build 90 #[]) w (.one .any) fun (x9_2 : Value) w_1 => (Pr Try.prog (Instr.alloc 90 true (.tuple #[])) w_1 (.one .any) fun (met4_4 : Value) w_3 => (PrU Try.prog (Instr.storeAt 90 met4_4 x9_2) w_3 fun w_5 => (Fc Try.prog 63 #[p0] w_5 (.one (.int .i64)) fun (x11_8 : Int) w_7 => (At (loopAt Try.f50 3) (loopAt Try.f50 3) (LOOP (U := (Value × Value × Int)) (S := (Int × Int)) ((p0 : Value), (met4_4 : Value), x11_8) (fun N_42 s_43 w_44 => B_impl_edgeCycles_3 (p0 : Value) (met4_4 : Value) x11_8 s_43.1 s_43.2 N_42 (fun (v_39 : (Int × Unit)) w_40 => ∀ _j_41 : Nat → Value, K v_39.1 w_40) w_44) ((0 : Int), (0 : Int)) w_7))))))

theorem eq_impl_edgeCycles (p0 : Value) (w : World) (K : Int → World → Prop) :
    W Try.prog ty O_impl_edgeCycles_3 (bodyOf Try.f50) (fnPost Try.prog Try.f50.results.toList (.one (.int .i64)) K) (frame0 [p0] 49) w = V_impl_edgeCycles p0 w K := by
  kernel_rfl

theorem body_impl_edgeCycles : Try.f50.body = some (bodyOf Try.f50) := by kernel_rfl
theorem name_impl_edgeCycles : (Try.f50.name == "runtime.NumGoroutine") = false := by kernel_rfl

theorem walk_impl_edgeCycles (p0 : Value) {w : World} {K : Int → World → Prop} (h : V_impl_edgeCycles p0 w K) : Fc Try.prog 50 #[p0] w (.one (.int .i64)) K :=
  fn_ok follows O_impl_edgeCycles_3_ok Try.func50 name_impl_edgeCycles body_impl_edgeCycles Try.ntmps50 [p0] (Eq.mpr (eq_impl_edgeCycles p0 w K) h)

-- uses S9Met
theorem c_impl_edgeCycles {p : List Int} {v : Value} {w : World} {K : Int → World → Prop} (hv : SlI w v p) (hp : PermL p p.length) (h7 : p.length ≤ 7)
    (hK : ∀ w', Below w.heap.size w w' → K (cycN p p.length : Nat) w') : Fc Try.prog F_impl_edgeCycles #[v] w (.one (.int .i64)) K := by
  obtain ⟨n, hn⟩ : ∃ n : Int, (p.length : Int) = n := ⟨_, rfl⟩
  rw [hn] at hp hK
  have n0 : 0 ≤ n := by omega
  have n7 : n ≤ 7 := by omega
  refine walk_impl_edgeCycles _ ⟨_, w, buildAb w, allocA yAb fun b w1 m1 => stA0 yAb m1.at_ rfl rfl (by decide) fun w2 m2 s2 h2 => ?_⟩
  have e1 := m1.here; have s1 := m1.size
  have q2 : Below w.heap.size w w2 := m1.below.trans (m2.below (by omega) (by simp; omega))
  rw [← metV_0] at h2
  have hlb : w.heap.size ≤ b := by omega
  have hed : ∀ i j : Int, 0 ≤ i → i < n → 0 ≤ j → j < n → i ≠ j → 0 ≤ num i j ∧ num i j < 136 := fun i j a b c d e => by
    have h1 := num_lt a b c d (by omega) e
    have h2 := edges_bd n0 (by omega)
    omega
  have hcb : ∀ m : Nat, ((cycS p m).1 : Int) ≤ m := fun m => by have := cycS_le p m; omega
  refine c_impl_sizeS (hv.keep q2) ?_
  rw [hn]
  refine lp (fun s w' => 0 ≤ s.2 ∧ s.2 ≤ n ∧ Below w.heap.size w w' ∧ s.1 = (cycS p (edgesOf s.2).toNat).1 ∧ Blk w' b (metV (cycS p (edgesOf s.2).toNat).2) tAb) (fun s _ => (n - s.2).toNat)
    ⟨by simp only; omega, by simp only; omega, q2, by simp only; rw [show (edgesOf 0).toNat = 0 from by decide]; rfl, by simp only; rw [show (edgesOf 0).toNat = 0 from by decide]; exact h2⟩ ?_
  rintro ⟨many, j⟩ w3 N ⟨j0, j1, q3, hm, h3⟩ hN
  simp only at j0 j1 hm h3
  subst hm
  unfold B_impl_edgeCycles_3
  dsimp only
  refine ⟨fun hlt => ?_, fun hge => ?_⟩
  · have hlt := dec_t hlt
    have ej := edges_bd (n := j) (by omega) (by omega)
    have ej1 := edgesOf_mono (j := j) (n := 7) (by omega) (by omega)
    rw [show edgesOf 7 = 21 from by decide] at ej1
    refine lp (fun s w' => 0 ≤ s.2 ∧ s.2 ≤ j ∧ Below w.heap.size w w' ∧ s.1 = (cycS p (edgesOf j + s.2).toNat).1 ∧ Blk w' b (metV (cycS p (edgesOf j + s.2).toNat).2) tAb) (fun s _ => (j - s.2).toNat)
      ⟨by simp only; omega, by simp only; omega, q3, by simp only [Int.add_zero], by simp only [Int.add_zero]; exact h3⟩ ?_
    rintro ⟨many, i⟩ w4 N' ⟨i0, i1, q4, hm, h4⟩ hN'
    simp only at i0 i1 hm h4
    subst hm
    unfold B_impl_edgeCycles_6
    dsimp only
    have hcm := hcb (edgesOf j + i).toNat
    refine ⟨fun hlt2 => ?_, fun hge2 => ?_⟩
    · have hlt2 := dec_t hlt2
      have hnum := hed i j i0 (by omega) j0 hlt (by omega)
      refine c_impl_number i0 (by omega) j0 (by omega) (ixRp (off := 0) yRb hnum.1 hnum.2 ?_)
      rw [Nat.zero_add]
      have cell : ∀ (M : Nat → Bool) (w' : World) (e : Nat), Blk w' b (metV M) tAb → e < 136 → Cell w' (ptr b e) (.bool (M e)) := fun M w' e hb he => by
        have := (blk_row hb).get e (metV_get M he)
        simpa [padd, add_none] using this
      refine ld (k := .bool) yb (cell _ _ _ h4 (by omega)) ⟨fun hmet => ?_, fun hmet => ?_⟩
      · rw [wrap_small (by omega) (by omega)]
        have := cycS_met i0 hlt2 (by omega) hmet
        exact hN' _ _ ⟨by simp only; omega, by simp only; omega, q4, by simp only [this], by simp only [this]; exact h4⟩ (by simp only; omega)
      · have hnew := cycS_new i0 hlt2 (by omega) hmet
        obtain ⟨R, hR⟩ : ∃ R, walkM p 136 (cycS p (edgesOf j + i).toNat).2 i j = R := ⟨_, rfl⟩
        rw [hR] at hnew
        rw [wrap_small (n := ((cycS p (edgesOf j + i).toNat).1 : Int) + 1) (by omega) (by omega)]
        refine lp (fun s w' => 0 ≤ s.1 ∧ s.1 < n ∧ 0 ≤ s.2 ∧ s.2 < n ∧ s.1 ≠ s.2 ∧ Below w.heap.size w w' ∧ ∃ (f : Nat) (M : Nat → Bool), freeM M ≤ f ∧ walkM p f M s.1 s.2 = R ∧ Blk w' b (metV M) tAb) (fun _ w' => muL b w')
          ⟨i0, by simp only; omega, j0, hlt, by simp only; omega, q4, 136, _, freeM_le _, hR, h4⟩ ?_
        rintro ⟨x, y⟩ w5 N'' ⟨x0, x1, y0, y1, hxy, q5, f, M, hf, hw, h5⟩ hN''
        simp only at x0 x1 y0 y1 hxy hw
        unfold B_impl_edgeCycles_11
        dsimp only
        have hnx := hed x y x0 x1 y0 y1 hxy
        refine c_impl_number x0 (by omega) y0 (by omega) (ixRp (off := 0) yRb hnx.1 hnx.2 ?_)
        rw [Nat.zero_add]
        refine ld (k := .bool) yb (cell _ _ _ h5 (by omega)) ⟨fun hno => ?_, fun hyes => ?_⟩
        · have hno := not_t hno
          refine c_impl_number x0 (by omega) y0 (by omega) (ixRp (off := 0) yRb hnx.1 hnx.2 ?_)
          rw [Nat.zero_add]
          refine st yb h5 (by rw [metV_len]; omega) rfl fun w6 m6 s6 h6 => ?_
          intro w7 hd7
          have q67 := hd7.below w6.heap.size
          have q6 : Below w.heap.size w w6 := q5.trans (m6.below q5.size (by simpa using hlb))
          have q7 := q6.trans (hd7.below w.heap.size)
          have h7' : Blk w7 b ((metV M).set (num x y).toNat (.bool true)) tAb := below_at q67 h6 (at_lt h6)
          obtain ⟨f', hf', hstep⟩ := walk_step (p := p) (M := M) (i := x) (j := y) (by omega) hno hf
          have bx := hp.bd x.toNat (by omega)
          have by_ := hp.bd y.toNat (by omega)
          have hne : p.getD x.toNat 0 ≠ p.getD y.toNat 0 := by
            by_cases hlt : x < y
            · exact hp.ne x.toNat y.toNat (by omega) (by omega)
            · exact (hp.ne y.toNat x.toNat (by omega) (by omega)).symm
          refine atI (hv.keep q7) x0 (by omega) (atI (hv.keep q7) y0 (by omega) ?_)
          refine hN'' _ _ ⟨bx.1, bx.2, by_.1, by_.2, hne, q7, f', updB M (num x y).toNat, hf', by rw [← hstep]; exact hw, by rw [← metV_set]; exact h7'⟩ ?_
          show muL b w7 < muL b w5
          rw [muL_blk h7', muL_blk h5]
          exact cnt_set (by rw [metV_get M (by omega), hno])
        · have hyes := not_f hyes
          rw [walk_done f hyes] at hw
          subst hw
          intro _
          try dsimp only
          rw [wrap_small (n := i + 1) (by omega) (by omega)]
          exact hN' _ _ ⟨by simp only; omega, by simp only; omega, q5, by simp only [hnew]; omega, by simp only [hnew]; exact h5⟩ (by simp only; omega)
    · have hge2 := dec_f hge2
      have : i = j := by omega
      subst this
      intro _
      try dsimp only
      rw [wrap_small (n := i + 1) (by omega) (by omega)]
      exact hN _ _ ⟨by simp only; omega, by simp only; omega, q4, by simp only [edgesOf_succ], by simp only [edgesOf_succ]; exact h4⟩ (by simp only; omega)
  · have hge := dec_f hge
    have : j = n := by omega
    subst this
    intro _
    exact hK w3 q3

end Go.Proofs.Ytdkodhonaoecnaa
