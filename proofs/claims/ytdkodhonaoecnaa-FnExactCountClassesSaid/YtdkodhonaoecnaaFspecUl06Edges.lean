/- The reading of spec_l06Edges, and its contract. No condition. -/
import Derived.Test.YtdkodhonaoecnaaTy
import Derived.Test.YtdkodhonaoecnaaS9Met
namespace Go.Proofs.Ytdkodhonaoecnaa
open Go Go.RowKit Eng Mem
set_option linter.unusedVariables false
set_option maxRecDepth 100000
def B_spec_l06Edges_12 (p0 : Value) (n3 : Int) (met4 : Value) (count5 : Int) (j6 : Int) (i7 : Int) (a8 : Int) (b9 : Int) (N : (Value × Int × Value × Int × Int × Int) → (Int × Int) → World → Prop) (D4 : (Value × Int × Value × Int × Int × Int × Unit) → World → Prop) (w : World) : Prop :=
  (QAll Try.prog (Instr.indexAt 89 met4 (.int .i64 (IntKind.i64.wrap ((IntKind.i64.wrap (a8 * n3)) + b9)))) .any fun (x46_6 : Value) => (QSub Try.prog (Instr.loadAt 4 x46_6) w .bool fun (x47_7 : Bool) => (((!x47_7) = true → (QAll Try.prog (Instr.indexAt 89 met4 (.int .i64 (IntKind.i64.wrap ((IntKind.i64.wrap (a8 * n3)) + b9)))) .any fun (x55_8 : Value) => (PrU Try.prog (Instr.storeAt 4 x55_8 (.bool true)) w fun w_9 => (∀ w_11, Drew w_9 w_11 → (QAll Try.prog (Instr.indexAt 25 p0 (.int .i64 a8)) .any fun (x58_12 : Value) => (QSub Try.prog (Instr.loadAt 2 x58_12) w_11 (.int .i64) fun (x59_13 : Int) => (QAll Try.prog (Instr.indexAt 25 p0 (.int .i64 b9)) .any fun (x62_14 : Value) => (QSub Try.prog (Instr.loadAt 2 x62_14) w_11 (.int .i64) fun (x63_15 : Int) => (QAll Try.prog (Builtin.min_ #[2, 2] 2 #[(.int .i64 x59_13), (.int .i64 x63_15)]) (.int .i64) fun (x66_16 : Int) => (QAll Try.prog (Builtin.max_ #[2, 2] 2 #[(.int .i64 x59_13), (.int .i64 x63_15)]) (.int .i64) fun (x69_17 : Int) => N ((p0 : Value), n3, (met4 : Value), count5, j6, i7) (x66_16, x69_17) w_11)))))))))) ∧ ((!x47_7) = false → D4 ((p0 : Value), n3, (met4 : Value), count5, j6, i7, ()) w))))

abbrev L_spec_l06Edges_12_e4 : List Slot := [.k .any, .junk, .junk, .k (.int .i64), .k .any, .k (.int .i64), .k (.int .i64), .k (.int .i64), .junk, .junk, .junk, .junk, .junk, .junk, .junk, .junk, .junk, .junk, .junk, .junk, .junk, .junk, .junk, .junk, .junk, .junk, .junk, .junk, .junk, .junk, .junk, .junk, .junk, .junk, .junk, .junk, .junk, .junk, .junk, .junk, .junk, .junk, .junk, .junk, .junk, .junk, .junk, .junk, .junk, .junk, .junk, .junk, .junk, .junk, .junk, .junk, .junk, .junk, .junk, .junk, .junk, .junk, .junk, .junk, .junk, .junk, .junk, .junk, .junk, .junk, .junk]

abbrev L_spec_l06Edges_12_sp : List Slot := [.k .any, .junk, .junk, .k (.int .i64), .k .any, .k (.int .i64), .k (.int .i64), .k (.int .i64), .k (.int .i64), .k (.int .i64), .junk, .junk, .junk, .junk, .junk, .junk, .junk, .junk, .junk, .junk, .junk, .junk, .junk, .junk, .junk, .junk, .junk, .junk, .junk, .junk, .junk, .junk, .junk, .junk, .junk, .junk, .junk, .junk, .junk, .junk, .junk, .junk, .junk, .junk, .junk, .junk, .junk, .junk, .junk, .junk, .junk, .junk, .junk, .junk, .junk, .junk, .junk, .junk, .junk, .junk, .junk, .junk, .junk, .junk, .junk, .junk, .junk, .junk, .junk, .junk, .junk]
abbrev L_spec_l06Edges_12_ex : List (Nat × List Slot) := [(4, L_spec_l06Edges_12_e4)]
abbrev L_spec_l06Edges_12_rt : List Slot := [.junk, .junk, .junk, .junk, .junk, .junk, .junk, .junk, .junk, .junk, .junk, .junk, .junk, .junk, .junk, .junk, .junk, .junk, .junk, .junk, .junk, .junk, .junk, .junk, .junk, .junk, .junk, .junk, .junk, .junk, .junk, .junk, .junk, .junk, .junk, .junk, .junk, .junk, .junk, .junk, .junk, .junk, .junk, .junk, .junk, .junk, .junk, .junk, .junk, .junk, .junk, .junk, .junk, .junk, .junk, .junk, .junk, .junk, .junk, .junk, .junk, .junk, .junk, .junk, .junk, .junk, .junk, .junk, .junk, .junk, .junk]

def L_spec_l06Edges_12_b (Φ : Post) (u : (Value × Int × Value × Int × Int × Int)) (N : (Value × Int × Value × Int × Int × Int) → (Int × Int) → World → Prop) (s : (Int × Int)) (w : World) : Prop :=
  B_spec_l06Edges_12 u.1 u.2.1 u.2.2.1 u.2.2.2.1 u.2.2.2.2.1 u.2.2.2.2.2 s.1 s.2 N (fun v w => ∀ j : Nat → Value, Φ (.exit 4) (mkT j 0 L_spec_l06Edges_12_e4 v) w) w

theorem L_spec_l06Edges_12_eq (j : Nat → Value) (u : (Value × Int × Value × Int × Int × Int)) (s : (Int × Int)) (N : (Value × Int × Value × Int × Int × Int) → (Int × Int) → World → Prop) (D4 : (Value × Int × Value × Int × Int × Int × Unit) → World → Prop) (R : (Unit) → World → Prop) (w : World) :
    W Try.prog ty (fun _ _ _ _ => False) (loopAt Try.f47 12) (loopPost L_spec_l06Edges_12_sp [(4, (⟨L_spec_l06Edges_12_e4, D4⟩ : Door))] ⟨L_spec_l06Edges_12_rt, R⟩ (fun v w => N ((fun v => (v.1, v.2.1, v.2.2.1, v.2.2.2.1, v.2.2.2.2.1, v.2.2.2.2.2.1)) v) ((fun v => (v.2.2.2.2.2.2.1, v.2.2.2.2.2.2.2.1)) v) w)) (mkT j 0 L_spec_l06Edges_12_sp ((fun u s => (u.1, u.2.1, u.2.2.1, u.2.2.2.1, u.2.2.2.2.1, u.2.2.2.2.2, s.1, s.2, ())) u s)) w =
    B_spec_l06Edges_12 u.1 u.2.1 u.2.2.1 u.2.2.2.1 u.2.2.2.2.1 u.2.2.2.2.2 s.1 s.2 N D4 w := by
  kernel_rfl

def O_spec_l06Edges_1 : Code → Post → List SV → World → Prop :=
  orc 12 (loopAt Try.f47 12) L_spec_l06Edges_12_sp (fun Φ fr w => LOOP (U := (Value × Int × Value × Int × Int × Int)) (S := (Int × Int)) ((fun v => (v.1, v.2.1, v.2.2.1, v.2.2.2.1, v.2.2.2.2.1, v.2.2.2.2.2.1)) (extT L_spec_l06Edges_12_sp fr)) (L_spec_l06Edges_12_b Φ ((fun v => (v.1, v.2.1, v.2.2.1, v.2.2.2.1, v.2.2.2.2.1, v.2.2.2.2.2.1)) (extT L_spec_l06Edges_12_sp fr))) ((fun v => (v.2.2.2.2.2.2.1, v.2.2.2.2.2.2.2.1)) (extT L_spec_l06Edges_12_sp fr)) w) (fun _ _ _ _ => False)

theorem O_spec_l06Edges_1_ok : Sound Try.prog O_spec_l06Edges_1 :=
  orc_ok (sound_none _) fun Φ fr w hs h => loop_ok (ty := ty) follows (sound_none _) L_spec_l06Edges_12_sp (fun v => (v.1, v.2.1, v.2.2.1, v.2.2.2.1, v.2.2.2.2.1, v.2.2.2.2.2.1)) (fun v => (v.2.2.2.2.2.2.1, v.2.2.2.2.2.2.2.1)) (fun u s => (u.1, u.2.1, u.2.2.1, u.2.2.2.1, u.2.2.2.2.1, u.2.2.2.2.2, s.1, s.2, ())) (fun _ => rfl) L_spec_l06Edges_12_ex L_spec_l06Edges_12_rt (body := L_spec_l06Edges_12_b Φ) (fun j u s w N hb => by
    have e := L_spec_l06Edges_12_eq j u s N (doorOf Φ (.exit 4) L_spec_l06Edges_12_e4).D (doorOf Φ .ret L_spec_l06Edges_12_rt).D w
    exact Eq.mpr e hb) hs h

def B_spec_l06Edges_7 (p0 : Value) (n3 : Int) (met4 : Value) (j6 : Int) (count5 : Int) (i7 : Int) (N : (Value × Int × Value × Int) → (Int × Int) → World → Prop) (D2 : (Value × Int × Value × Int × Int × Unit) → World → Prop) (w : World) : Prop :=
  (((decide (i7 < j6)) = true → (QAll Try.prog (Instr.indexAt 89 met4 (.int .i64 (IntKind.i64.wrap ((IntKind.i64.wrap (i7 * n3)) + j6)))) .any fun (x34_4 : Value) => (QSub Try.prog (Instr.loadAt 4 x34_4) w .bool fun (x35_5 : Bool) => ((x35_5 = true → N ((p0 : Value), n3, (met4 : Value), j6) (count5, (IntKind.i64.wrap (i7 + (1 : Int)))) w) ∧ (x35_5 = false → (At (loopAt Try.f47 12) (loopAt Try.f47 12) (LOOP (U := (Value × Int × Value × Int × Int × Int)) (S := (Int × Int)) ((p0 : Value), n3, (met4 : Value), (IntKind.i64.wrap (count5 + (1 : Int))), j6, i7) (fun N_21 s_22 w_23 => B_spec_l06Edges_12 (p0 : Value) n3 (met4 : Value) (IntKind.i64.wrap (count5 + (1 : Int))) j6 i7 s_22.1 s_22.2 N_21 (fun (v_18 : (Value × Int × Value × Int × Int × Int × Unit)) w_19 => ∀ _j_20 : Nat → Value, N ((v_18.1 : Value), v_18.2.1, (v_18.2.2.1 : Value), v_18.2.2.2.2.1) (v_18.2.2.2.1, (IntKind.i64.wrap (v_18.2.2.2.2.2.1 + (1 : Int)))) w_19) w_23) (i7, j6) w))))))) ∧ ((decide (i7 < j6)) = false → D2 ((p0 : Value), n3, (met4 : Value), count5, j6, ()) w))

abbrev L_spec_l06Edges_7_e2 : List Slot := [.k .any, .junk, .junk, .k (.int .i64), .k .any, .k (.int .i64), .k (.int .i64), .junk, .junk, .junk, .junk, .junk, .junk, .junk, .junk, .junk, .junk, .junk, .junk, .junk, .junk, .junk, .junk, .junk, .junk, .junk, .junk, .junk, .junk, .junk, .junk, .junk, .junk, .junk, .junk, .junk, .junk, .junk, .junk, .junk, .junk, .junk, .junk, .junk, .junk, .junk, .junk, .junk, .junk, .junk, .junk, .junk, .junk, .junk, .junk, .junk, .junk, .junk, .junk, .junk, .junk, .junk, .junk, .junk, .junk, .junk, .junk, .junk, .junk, .junk, .junk]

abbrev L_spec_l06Edges_7_sp : List Slot := [.k .any, .junk, .junk, .k (.int .i64), .k .any, .k (.int .i64), .k (.int .i64), .k (.int .i64), .junk, .junk, .junk, .junk, .junk, .junk, .junk, .junk, .junk, .junk, .junk, .junk, .junk, .junk, .junk, .junk, .junk, .junk, .junk, .junk, .junk, .junk, .junk, .junk, .junk, .junk, .junk, .junk, .junk, .junk, .junk, .junk, .junk, .junk, .junk, .junk, .junk, .junk, .junk, .junk, .junk, .junk, .junk, .junk, .junk, .junk, .junk, .junk, .junk, .junk, .junk, .junk, .junk, .junk, .junk, .junk, .junk, .junk, .junk, .junk, .junk, .junk, .junk]
abbrev L_spec_l06Edges_7_ex : List (Nat × List Slot) := [(2, L_spec_l06Edges_7_e2)]
abbrev L_spec_l06Edges_7_rt : List Slot := [.junk, .junk, .junk, .junk, .junk, .junk, .junk, .junk, .junk, .junk, .junk, .junk, .junk, .junk, .junk, .junk, .junk, .junk, .junk, .junk, .junk, .junk, .junk, .junk, .junk, .junk, .junk, .junk, .junk, .junk, .junk, .junk, .junk, .junk, .junk, .junk, .junk, .junk, .junk, .junk, .junk, .junk, .junk, .junk, .junk, .junk, .junk, .junk, .junk, .junk, .junk, .junk, .junk, .junk, .junk, .junk, .junk, .junk, .junk, .junk, .junk, .junk, .junk, .junk, .junk, .junk, .junk, .junk, .junk, .junk, .junk]

def L_spec_l06Edges_7_b (Φ : Post) (u : (Value × Int × Value × Int)) (N : (Value × Int × Value × Int) → (Int × Int) → World → Prop) (s : (Int × Int)) (w : World) : Prop :=
  B_spec_l06Edges_7 u.1 u.2.1 u.2.2.1 u.2.2.2 s.1 s.2 N (fun v w => ∀ j : Nat → Value, Φ (.exit 2) (mkT j 0 L_spec_l06Edges_7_e2 v) w) w

theorem L_spec_l06Edges_7_eq (j : Nat → Value) (u : (Value × Int × Value × Int)) (s : (Int × Int)) (N : (Value × Int × Value × Int) → (Int × Int) → World → Prop) (D2 : (Value × Int × Value × Int × Int × Unit) → World → Prop) (R : (Unit) → World → Prop) (w : World) :
    W Try.prog ty O_spec_l06Edges_1 (loopAt Try.f47 7) (loopPost L_spec_l06Edges_7_sp [(2, (⟨L_spec_l06Edges_7_e2, D2⟩ : Door))] ⟨L_spec_l06Edges_7_rt, R⟩ (fun v w => N ((fun v => (v.1, v.2.1, v.2.2.1, v.2.2.2.2.1)) v) ((fun v => (v.2.2.2.1, v.2.2.2.2.2.1)) v) w)) (mkT j 0 L_spec_l06Edges_7_sp ((fun u s => (u.1, u.2.1, u.2.2.1, s.1, u.2.2.2, s.2, ())) u s)) w =
    B_spec_l06Edges_7 u.1 u.2.1 u.2.2.1 u.2.2.2 s.1 s.2 N D2 w := by
  kernel_rfl

def O_spec_l06Edges_2 : Code → Post → List SV → World → Prop :=
  orc 7 (loopAt Try.f47 7) L_spec_l06Edges_7_sp (fun Φ fr w => LOOP (U := (Value × Int × Value × Int)) (S := (Int × Int)) ((fun v => (v.1, v.2.1, v.2.2.1, v.2.2.2.2.1)) (extT L_spec_l06Edges_7_sp fr)) (L_spec_l06Edges_7_b Φ ((fun v => (v.1, v.2.1, v.2.2.1, v.2.2.2.2.1)) (extT L_spec_l06Edges_7_sp fr))) ((fun v => (v.2.2.2.1, v.2.2.2.2.2.1)) (extT L_spec_l06Edges_7_sp fr)) w) O_spec_l06Edges_1

theorem O_spec_l06Edges_2_ok : Sound Try.prog O_spec_l06Edges_2 :=
  orc_ok O_spec_l06Edges_1_ok fun Φ fr w hs h => loop_ok (ty := ty) follows O_spec_l06Edges_1_ok L_spec_l06Edges_7_sp (fun v => (v.1, v.2.1, v.2.2.1, v.2.2.2.2.1)) (fun v => (v.2.2.2.1, v.2.2.2.2.2.1)) (fun u s => (u.1, u.2.1, u.2.2.1, s.1, u.2.2.2, s.2, ())) (fun _ => rfl) L_spec_l06Edges_7_ex L_spec_l06Edges_7_rt (body := L_spec_l06Edges_7_b Φ) (fun j u s w N hb => by
    have e := L_spec_l06Edges_7_eq j u s N (doorOf Φ (.exit 2) L_spec_l06Edges_7_e2).D (doorOf Φ .ret L_spec_l06Edges_7_rt).D w
    exact Eq.mpr e hb) hs h

def B_spec_l06Edges_4 (p0 : Value) (n3 : Int) (met4 : Value) (count5 : Int) (j6 : Int) (N : (Value × Int × Value) → (Int × Int) → World → Prop) (D0 : (Int × Unit) → World → Prop) (w : World) : Prop :=
  (((decide (j6 < n3)) = true → (At (loopAt Try.f47 7) (loopAt Try.f47 7) (LOOP (U := (Value × Int × Value × Int)) (S := (Int × Int)) ((p0 : Value), n3, (met4 : Value), j6) (fun N_27 s_28 w_29 => B_spec_l06Edges_7 (p0 : Value) n3 (met4 : Value) j6 s_28.1 s_28.2 N_27 (fun (v_24 : (Value × Int × Value × Int × Int × Unit)) w_25 => ∀ _j_26 : Nat → Value, N ((v_24.1 : Value), v_24.2.1, (v_24.2.2.1 : Value)) (v_24.2.2.2.1, (IntKind.i64.wrap (v_24.2.2.2.2.1 + (1 : Int)))) w_25) w_29) (count5, (0 : Int)) w))) ∧ ((decide (j6 < n3)) = false → D0 (count5, ()) w))

abbrev L_spec_l06Edges_4_e0 : List Slot := [.junk, .junk, .junk, .junk, .junk, .k (.int .i64), .junk, .junk, .junk, .junk, .junk, .junk, .junk, .junk, .junk, .junk, .junk, .junk, .junk, .junk, .junk, .junk, .junk, .junk, .junk, .junk, .junk, .junk, .junk, .junk, .junk, .junk, .junk, .junk, .junk, .junk, .junk, .junk, .junk, .junk, .junk, .junk, .junk, .junk, .junk, .junk, .junk, .junk, .junk, .junk, .junk, .junk, .junk, .junk, .junk, .junk, .junk, .junk, .junk, .junk, .junk, .junk, .junk, .junk, .junk, .junk, .junk, .junk, .junk, .junk, .junk]

abbrev L_spec_l06Edges_4_sp : List Slot := [.k .any, .junk, .junk, .k (.int .i64), .k .any, .k (.int .i64), .k (.int .i64), .junk, .junk, .junk, .junk, .junk, .junk, .junk, .junk, .junk, .junk, .junk, .junk, .junk, .junk, .junk, .junk, .junk, .junk, .junk, .junk, .junk, .junk, .junk, .junk, .junk, .junk, .junk, .junk, .junk, .junk, .junk, .junk, .junk, .junk, .junk, .junk, .junk, .junk, .junk, .junk, .junk, .junk, .junk, .junk, .junk, .junk, .junk, .junk, .junk, .junk, .junk, .junk, .junk, .junk, .junk, .junk, .junk, .junk, .junk, .junk, .junk, .junk, .junk, .junk]
abbrev L_spec_l06Edges_4_ex : List (Nat × List Slot) := [(0, L_spec_l06Edges_4_e0)]
abbrev L_spec_l06Edges_4_rt : List Slot := [.junk, .junk, .junk, .junk, .junk, .junk, .junk, .junk, .junk, .junk, .junk, .junk, .junk, .junk, .junk, .junk, .junk, .junk, .junk, .junk, .junk, .junk, .junk, .junk, .junk, .junk, .junk, .junk, .junk, .junk, .junk, .junk, .junk, .junk, .junk, .junk, .junk, .junk, .junk, .junk, .junk, .junk, .junk, .junk, .junk, .junk, .junk, .junk, .junk, .junk, .junk, .junk, .junk, .junk, .junk, .junk, .junk, .junk, .junk, .junk, .junk, .junk, .junk, .junk, .junk, .junk, .junk, .junk, .junk, .junk, .junk]

def L_spec_l06Edges_4_b (Φ : Post) (u : (Value × Int × Value)) (N : (Value × Int × Value) → (Int × Int) → World → Prop) (s : (Int × Int)) (w : World) : Prop :=
  B_spec_l06Edges_4 u.1 u.2.1 u.2.2 s.1 s.2 N (fun v w => ∀ j : Nat → Value, Φ (.exit 0) (mkT j 0 L_spec_l06Edges_4_e0 v) w) w

theorem L_spec_l06Edges_4_eq (j : Nat → Value) (u : (Value × Int × Value)) (s : (Int × Int)) (N : (Value × Int × Value) → (Int × Int) → World → Prop) (D0 : (Int × Unit) → World → Prop) (R : (Unit) → World → Prop) (w : World) :
    W Try.prog ty O_spec_l06Edges_2 (loopAt Try.f47 4) (loopPost L_spec_l06Edges_4_sp [(0, (⟨L_spec_l06Edges_4_e0, D0⟩ : Door))] ⟨L_spec_l06Edges_4_rt, R⟩ (fun v w => N ((fun v => (v.1, v.2.1, v.2.2.1)) v) ((fun v => (v.2.2.2.1, v.2.2.2.2.1)) v) w)) (mkT j 0 L_spec_l06Edges_4_sp ((fun u s => (u.1, u.2.1, u.2.2, s.1, s.2, ())) u s)) w =
    B_spec_l06Edges_4 u.1 u.2.1 u.2.2 s.1 s.2 N D0 w := by
  kernel_rfl

def O_spec_l06Edges_3 : Code → Post → List SV → World → Prop :=
  orc 4 (loopAt Try.f47 4) L_spec_l06Edges_4_sp (fun Φ fr w => LOOP (U := (Value × Int × Value)) (S := (Int × Int)) ((fun v => (v.1, v.2.1, v.2.2.1)) (extT L_spec_l06Edges_4_sp fr)) (L_spec_l06Edges_4_b Φ ((fun v => (v.1, v.2.1, v.2.2.1)) (extT L_spec_l06Edges_4_sp fr))) ((fun v => (v.2.2.2.1, v.2.2.2.2.1)) (extT L_spec_l06Edges_4_sp fr)) w) O_spec_l06Edges_2

theorem O_spec_l06Edges_3_ok : Sound Try.prog O_spec_l06Edges_3 :=
  orc_ok O_spec_l06Edges_2_ok fun Φ fr w hs h => loop_ok (ty := ty) follows O_spec_l06Edges_2_ok L_spec_l06Edges_4_sp (fun v => (v.1, v.2.1, v.2.2.1)) (fun v => (v.2.2.2.1, v.2.2.2.2.1)) (fun u s => (u.1, u.2.1, u.2.2, s.1, s.2, ())) (fun _ => rfl) L_spec_l06Edges_4_ex L_spec_l06Edges_4_rt (body := L_spec_l06Edges_4_b Φ) (fun j u s w N hb => by
    have e := L_spec_l06Edges_4_eq j u s N (doorOf Φ (.exit 0) L_spec_l06Edges_4_e0).D (doorOf Φ .ret L_spec_l06Edges_4_rt).D w
    exact Eq.mpr e hb) hs h

def V_spec_l06Edges (p0 : Value) (w : World) (K : Int → World → Prop) : Prop :=
  (QAll Try.prog (Builtin.len_ #[25] 3 #[p0]) (.int .i64) fun (x13_1 : Int) => (Pr Try.prog (Instr.makeSlice 89 (.int .i64 (IntKind.i64.wrap (x13_1 * x13_1))) (.int .i64 (IntKind.i64.wrap (x13_1 * x13_1)))) w (.one .any) fun (x17_3 : Value) w_2 => (At (loopAt Try.f47 4) (loopAt Try.f47 4) (LOOP (U := (Value × Int × Value)) (S := (Int × Int)) ((p0 : Value), x13_1, (x17_3 : Value)) (fun N_33 s_34 w_35 => B_spec_l06Edges_4 (p0 : Value) x13_1 (x17_3 : Value) s_34.1 s_34.2 N_33 (fun (v_30 : (Int × Unit)) w_31 => ∀ _j_32 : Nat → Value, K v_30.1 w_31) w_35) ((0 : Int), (1 : Int)) w_2))))

theorem eq_spec_l06Edges (p0 : Value) (w : World) (K : Int → World → Prop) :
    W Try.prog ty O_spec_l06Edges_3 (bodyOf Try.f47) (fnPost Try.prog Try.f47.results.toList (.one (.int .i64)) K) (frame0 [p0] 71) w = V_spec_l06Edges p0 w K := by
  kernel_rfl

theorem body_spec_l06Edges : Try.f47.body = some (bodyOf Try.f47) := by kernel_rfl
theorem name_spec_l06Edges : (Try.f47.name == "runtime.NumGoroutine") = false := by kernel_rfl

theorem walk_spec_l06Edges (p0 : Value) {w : World} {K : Int → World → Prop} (h : V_spec_l06Edges p0 w K) : Fc Try.prog 47 #[p0] w (.one (.int .i64)) K :=
  fn_ok follows O_spec_l06Edges_3_ok Try.func47 name_spec_l06Edges body_spec_l06Edges Try.ntmps47 [p0] (Eq.mpr (eq_spec_l06Edges p0 w K) h)

-- uses S9Met
theorem c_spec_l06Edges {p : List Int} {v : Value} {w : World} {K : Int → World → Prop} (hv : SlI w v p) (hp : PermL p p.length) (h1 : 1 ≤ p.length) (h7 : p.length ≤ 7)
    (hK : ∀ w', Below w.heap.size w w' → K (cycN p p.length : Nat) w') : Fc Try.prog F_spec_l06Edges #[v] w (.one (.int .i64)) K := by
  obtain ⟨m, hm⟩ : ∃ m : Nat, p.length = m := ⟨_, rfl⟩
  obtain ⟨n, hn⟩ : ∃ n : Int, (p.length : Int) = n := ⟨_, rfl⟩
  have hmn : (m : Int) = n := by omega
  rw [hn] at hp hK
  have n0 : 1 ≤ n := by omega
  have n7 : n ≤ 7 := by omega
  have hnn : m * m ≤ 7 * 7 := Nat.mul_le_mul (by omega) (by omega)
  have hnnI : n * n = ((m * m : Nat) : Int) := by rw [← hmn]; simp
  have hcb : ∀ m : Nat, ((cycS p m).1 : Int) ≤ m := fun m => by have := cycS_le p m; omega
  refine walk_spec_l06Edges _ (lenI hv ?_)
  rw [hn, hnnI, wrap_small (by omega) (by omega)]
  refine mkSb (by omega) (by omega) fun b mv w1 m1 ho1 => ?_
  rw [Int.toNat_natCast] at ho1
  have q1 := m1.below
  have e1 := m1.here; have s1 := m1.size
  have hlb : w.heap.size ≤ b := by omega
  -- the place of an edge
  have idx : ∀ x y : Nat, x < y → y < m → x * m + y < m * m := fun x y hxy hy => by
    have : (x + 1) * m ≤ m * m := Nat.mul_le_mul_right m (by omega)
    rw [Nat.add_mul] at this
    omega
  have widx : ∀ x y : Int, 0 ≤ x → x < y → y < n → IntKind.i64.wrap (IntKind.i64.wrap (x * n) + y) = ((x.toNat * m + y.toNat : Nat) : Int) := fun x y x0 xy yn => by
    have := idx x.toNat y.toNat (by omega) (by omega)
    have e : x * n = ((x.toNat * m : Nat) : Int) := by
      rw [← hmn, show x = ((x.toNat : Nat) : Int) from by omega]; simp
    generalize x.toNat * m = T at this e ⊢
    rw [e, wrap_small (n := (T : Int)) (by omega) (by omega), wrap_small (by omega) (by omega)]
    omega
  let R : World → (Nat → Bool) → Prop := fun w' M => ∃ l, Own w' b tb 1 mv (m * m) l ∧ ∀ x y : Nat, x < y → y < m → l[x * m + y]? = some (.bool (M (enum x y).toNat))
  have hR1 : R w1 (cycS p (edgesOf 1).toNat).2 := ⟨_, ho1, fun x y hxy hy => by
    have := idx x y hxy hy
    rw [show (edgesOf 1).toNat = 0 from by decide]
    simp [cycS, this]⟩
  have rd : ∀ {w' : World} {M : Nat → Bool} {x y : Int} {K' : Bool → Prop}, R w' M → 0 ≤ x → x < y → y < n → K' (M (enum x y).toNat) →
      QAll Try.prog (Instr.indexAt tSb mv (.int .i64 ((x.toNat * m + y.toNat : Nat) : Int))) .any fun q => QSub Try.prog (Instr.loadAt tb q) w' .bool K' := fun {w' M x y K'} ⟨l, ho, hr⟩ x0 xy yn hk => by
    have hi := idx x.toNat y.toNat (by omega) (by omega)
    have hl := ho.len
    refine ixS ySb ho.sl (by omega) (by rw [Int.toNat_natCast]; omega) fun q hq => ?_
    have hx := hr x.toNat y.toNat (by omega) (by omega)
    rw [show ((x.toNat : Nat) : Int) = x from by omega, show ((y.toNat : Nat) : Int) = y from by omega] at hx
    refine ld (k := .bool) yb (hq [_] fun j hj => ?_) hk
    have : j = 0 := by simp at hj; exact hj
    subst this
    rw [Int.toNat_natCast, Nat.mul_one, Nat.add_zero, hx]
    rfl
  have wr : ∀ {w' : World} {M : Nat → Bool} {x y : Int} {K' : World → Prop}, R w' M → M (enum x y).toNat = false → 0 ≤ x → x < y → y < n → (∀ w'', Mod [b] w' w'' → w''.heap.size = w'.heap.size → R w'' (updB M (enum x y).toNat) → muL b w'' < muL b w' → K' w'') →
      QAll Try.prog (Instr.indexAt tSb mv (.int .i64 ((x.toNat * m + y.toNat : Nat) : Int))) .any fun q => PrU Try.prog (Instr.storeAt tb q (.bool true)) w' K' := fun {w' M x y K'} ⟨l, ho, hr⟩ hM x0 xy yn hk => by
    have hi := idx x.toNat y.toNat (by omega) (by omega)
    have hll := ho.len
    obtain ⟨cap, l', hv', hb, hc, hcm, hl', ht, hx⟩ := id ho
    refine ixOv ySb ho (by omega) (by omega) ?_
    rw [Int.toNat_natCast]
    refine st yb hb (by rw [hl', Nat.mul_one]; omega) rfl fun w2 m2 s2 h2 => hk w2 m2 s2 ⟨l.set (x.toNat * m + y.toNat) (.bool true), ?_, fun a c hac hc => ?_⟩ ?_
    · have := ho.set hb h2
      exact this
    · by_cases he : a = x.toNat ∧ c = y.toNat
      · rw [he.1, he.2, List.getElem?_set_self (by omega), show ((x.toNat : Nat) : Int) = x from by omega, show ((y.toNat : Nat) : Int) = y from by omega]
        simp [updB]
      · rw [List.getElem?_set_ne (fun h => he (by have := idx_inj (show y.toNat < m by omega) hc h; exact ⟨this.1.symm, this.2.symm⟩)), hr a c hac hc]
        have p1 := pair_enum (i := (a : Int)) (j := (c : Int)) (by omega) (by omega) (by omega)
        have p2 := pair_enum x0 xy (by omega)
        have : (enum (a : Int) (c : Int)).toNat ≠ (enum x y).toNat := fun h => he (by rw [h] at p1; exact ⟨by omega, by omega⟩)
        simp [updB, this]
    · rw [muL_blk h2, muL_blk hb]
      refine cnt_set ?_
      have hx := hr x.toNat y.toNat (by omega) (by omega)
      rw [show ((x.toNat : Nat) : Int) = x from by omega, show ((y.toNat : Nat) : Int) = y from by omega, hM, ← ht, List.getElem?_take_of_lt (by omega)] at hx
      exact hx
  have keepR : ∀ {w' w'' : World} {M : Nat → Bool}, R w' M → Below w'.heap.size w' w'' → R w'' M := fun ⟨l, ho, hr⟩ q => ⟨l, ho.keep q, hr⟩
  refine lp (fun s w' => 1 ≤ s.2 ∧ s.2 ≤ n ∧ Below w.heap.size w w' ∧ s.1 = (cycS p (edgesOf s.2).toNat).1 ∧ R w' (cycS p (edgesOf s.2).toNat).2) (fun s _ => (n - s.2).toNat)
    ⟨by simp only; omega, by simp only; omega, q1, by simp only; rw [show (edgesOf 1).toNat = 0 from by decide]; rfl, hR1⟩ ?_
  rintro ⟨many, j⟩ w3 N ⟨j0, j1, q3, hmy, h3⟩ hN
  simp only at j0 j1 hmy h3
  subst hmy
  unfold B_spec_l06Edges_4
  dsimp only
  refine ⟨fun hlt => ?_, fun hge => ?_⟩
  · have hlt := dec_t hlt
    have ej := edges_bd (n := j) (by omega) (by omega)
    have ej1 := edgesOf_mono (j := j) (n := 7) (by omega) (by omega)
    rw [show edgesOf 7 = 21 from by decide] at ej1
    refine lp (fun s w' => 0 ≤ s.2 ∧ s.2 ≤ j ∧ Below w.heap.size w w' ∧ s.1 = (cycS p (edgesOf j + s.2).toNat).1 ∧ R w' (cycS p (edgesOf j + s.2).toNat).2) (fun s _ => (j - s.2).toNat)
      ⟨by simp only; omega, by simp only; omega, q3, by simp only [Int.add_zero], by simp only [Int.add_zero]; exact h3⟩ ?_
    rintro ⟨many, i⟩ w4 N' ⟨i0, i1, q4, hmy, h4⟩ hN'
    simp only at i0 i1 hmy h4
    subst hmy
    unfold B_spec_l06Edges_7
    dsimp only
    have hcm := hcb (edgesOf j + i).toNat
    refine ⟨fun hlt2 => ?_, fun hge2 => ?_⟩
    · have hlt2 := dec_t hlt2
      rw [widx i j i0 hlt2 hlt]
      refine rd h4 i0 hlt2 hlt ⟨fun hmet => ?_, fun hmet => ?_⟩
      · rw [wrap_small (by omega) (by omega)]
        have := cycS_met i0 hlt2 (by omega) (by rw [num_of hlt2]; exact hmet)
        exact hN' _ _ ⟨by simp only; omega, by simp only; omega, q4, by simp only [this], by simp only [this]; exact h4⟩ (by simp only; omega)
      · have hnew := cycS_new i0 hlt2 (by omega) (by rw [num_of hlt2]; exact hmet)
        obtain ⟨Q, hQ⟩ : ∃ Q, walkM p 136 (cycS p (edgesOf j + i).toNat).2 i j = Q := ⟨_, rfl⟩
        rw [hQ] at hnew
        rw [wrap_small (n := ((cycS p (edgesOf j + i).toNat).1 : Int) + 1) (by omega) (by omega)]
        refine lp (fun s w' => 0 ≤ s.1 ∧ s.1 < s.2 ∧ s.2 < n ∧ Below w.heap.size w w' ∧ ∃ (f : Nat) (M : Nat → Bool), freeM M ≤ f ∧ walkM p f M s.1 s.2 = Q ∧ R w' M) (fun _ w' => muL b w')
          ⟨i0, by simp only; omega, by simp only; omega, q4, 136, _, freeM_le _, hQ, h4⟩ ?_
        rintro ⟨x, y⟩ w5 N'' ⟨x0, xy, y1, q5, f, M, hf, hw, h5⟩ hN''
        simp only at x0 xy y1 hw
        unfold B_spec_l06Edges_12
        dsimp only
        have hnx := num_lt x0 (show x < n by omega) (show 0 ≤ y by omega) y1 (by omega) (show x ≠ y by omega)
        have hen := edges_bd (n := n) (by omega) (by omega)
        rw [widx x y x0 xy y1]
        refine rd h5 x0 xy y1 ⟨fun hno => ?_, fun hyes => ?_⟩
        · have hno := not_t hno
          refine wr h5 hno x0 xy y1 fun w6 m6 s6 h6 hmu => ?_
          intro w7 hd7
          have q67 := hd7.below w6.heap.size
          have q6 : Below w.heap.size w w6 := q5.trans (m6.below q5.size (by simpa using hlb))
          have q7 := q6.trans (hd7.below w.heap.size)
          have h7' := keepR h6 q67
          rw [← num_of xy] at hno h7'
          obtain ⟨f', hf', hstep⟩ := walk_step (p := p) (M := M) (i := x) (j := y) (by omega) hno hf
          have bx := hp.bd x.toNat (by omega)
          have by_ := hp.bd y.toNat (by omega)
          have hne := hp.ne x.toNat y.toNat (by omega) (by omega)
          refine atI (hv.keep q7) x0 (by omega) (atI (hv.keep q7) (by omega) (by omega) (mn (mx ?_)))
          have hmu7 : muL b w7 = muL b w6 := by
            obtain ⟨l6, ho6, _⟩ := h6
            obtain ⟨cap, l', _, hb, _⟩ := ho6
            rw [muL_blk hb, muL_blk (below_at q67 hb (at_lt hb))]
          generalize p.getD x.toNat 0 = c at bx hne hstep ⊢
          generalize p.getD y.toNat 0 = d at by_ hne hstep ⊢
          refine hN'' _ _ ⟨?_, ?_, ?_, q7, f', updB M (num x y).toNat, hf', ?_, h7'⟩ (by rw [hmu7]; exact hmu)
          · simp only; split <;> omega
          · simp only; split <;> split <;> omega
          · simp only; split <;> omega
          · simp only
            rw [hstep] at hw
            by_cases hcd : d < c
            · rw [if_pos hcd, if_neg (by omega), walkM_symm]; exact hw
            · rw [if_neg hcd, if_pos (by omega)]; exact hw
        · have hyes := not_f hyes
          rw [walk_done f (by rw [num_of xy]; exact hyes)] at hw
          subst hw
          intro _
          try dsimp only
          rw [wrap_small (n := i + 1) (by omega) (by omega)]
          exact hN' _ _ ⟨by simp only; omega, by simp only; omega, q5, by simp only [hnew]; omega, by simp only [hnew]; exact h5⟩ (by simp only; omega)
    · have hge2 := dec_f hge2
      have : i = j := by omega
      subst this
      intro _
      try dsimp only
      rw [wrap_small (n := i + 1) (by omega) (by omega)]
      exact hN _ _ ⟨by simp only; omega, by simp only; omega, q4, by simp only [edgesOf_succ], by simp only [edgesOf_succ]; exact h4⟩ (by simp only; omega)
  · have hge := dec_f hge
    have : j = n := by omega
    subst this
    intro _
    exact hK w3 q3

end Go.Proofs.Ytdkodhonaoecnaa
