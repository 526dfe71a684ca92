/- The reading of spec_l01Circle, and its contract. No condition. -/
import Derived.Test.YtdkodhonaoecnaaTy
import Derived.Test.YtdkodhonaoecnaaS9Nam
import Derived.Test.YtdkodhonaoecnaaFspecUl01Edge
namespace Go.Proofs.Ytdkodhonaoecnaa
open Go Go.RowKit Eng Mem
set_option linter.unusedVariables false
set_option maxRecDepth 100000
def B_spec_l01Circle_10 (n0 : Int) (list1 : Value) (x4 : Value) (out5 : Value) (j6 : Int) (i7 : Int) (own8 : Int) (k9 : Int) (N : (Int × Value × Value × Value × Int × Int) → (Int × Int) → World → Prop) (D4 : (Int × Value × Value × Value × Int × Int × Int × Unit) → World → Prop) (w : World) : Prop :=
  (QAll Try.prog (Builtin.len_ #[25] 3 #[list1]) (.int .i64) fun (x24_9 : Int) => (((decide (k9 < x24_9)) = true → (QAll Try.prog (Instr.indexAt 25 list1 (.int .i64 k9)) .any fun (x30_10 : Value) => (QSub Try.prog (Instr.loadAt 2 x30_10) w (.int .i64) fun (x31_11 : Int) => (((x31_11 == (IntKind.i64.wrap (j6 - i7))) = true → N (n0, (list1 : Value), (x4 : Value), (out5 : Value), j6, i7) ((0 : Int), (IntKind.i64.wrap (k9 + (1 : Int)))) w) ∧ ((x31_11 == (IntKind.i64.wrap (j6 - i7))) = false → N (n0, (list1 : Value), (x4 : Value), (out5 : Value), j6, i7) (own8, (IntKind.i64.wrap (k9 + (1 : Int)))) w))))) ∧ ((decide (k9 < x24_9)) = false → D4 (n0, (list1 : Value), (x4 : Value), (out5 : Value), j6, i7, own8, ()) w)))

abbrev L_spec_l01Circle_10_e4 : List Slot := [.k (.int .i64), .k .any, .junk, .junk, .k .any, .k .any, .k (.int .i64), .k (.int .i64), .k (.int .u8), .junk, .junk, .junk, .junk, .junk, .junk, .junk, .junk, .junk, .junk, .junk, .junk, .junk, .junk, .junk, .junk, .junk, .junk, .junk, .junk, .junk, .junk, .junk, .junk, .junk, .junk, .junk, .junk, .junk, .junk, .junk, .junk, .junk, .junk]

abbrev L_spec_l01Circle_10_sp : List Slot := [.k (.int .i64), .k .any, .junk, .junk, .k .any, .k .any, .k (.int .i64), .k (.int .i64), .k (.int .u8), .k (.int .i64), .junk, .junk, .junk, .junk, .junk, .junk, .junk, .junk, .junk, .junk, .junk, .junk, .junk, .junk, .junk, .junk, .junk, .junk, .junk, .junk, .junk, .junk, .junk, .junk, .junk, .junk, .junk, .junk, .junk, .junk, .junk, .junk, .junk]
abbrev L_spec_l01Circle_10_ex : List (Nat × List Slot) := [(4, L_spec_l01Circle_10_e4)]
abbrev L_spec_l01Circle_10_rt : List Slot := [.junk, .junk, .junk, .junk, .junk, .junk, .junk, .junk, .junk, .junk, .junk, .junk, .junk, .junk, .junk, .junk, .junk, .junk, .junk, .junk, .junk, .junk, .junk, .junk, .junk, .junk, .junk, .junk, .junk, .junk, .junk, .junk, .junk, .junk, .junk, .junk, .junk, .junk, .junk, .junk, .junk, .junk, .junk]

def L_spec_l01Circle_10_b (Φ : Post) (u : (Int × Value × Value × Value × Int × Int)) (N : (Int × Value × Value × Value × Int × Int) → (Int × Int) → World → Prop) (s : (Int × Int)) (w : World) : Prop :=
  B_spec_l01Circle_10 u.1 u.2.1 u.2.2.1 u.2.2.2.1 u.2.2.2.2.1 u.2.2.2.2.2 s.1 s.2 N (fun v w => ∀ j : Nat → Value, Φ (.exit 4) (mkT j 0 L_spec_l01Circle_10_e4 v) w) w

theorem L_spec_l01Circle_10_eq (j : Nat → Value) (u : (Int × Value × Value × Value × Int × Int)) (s : (Int × Int)) (N : (Int × Value × Value × Value × Int × Int) → (Int × Int) → World → Prop) (D4 : (Int × Value × Value × Value × Int × Int × Int × Unit) → World → Prop) (R : (Unit) → World → Prop) (w : World) :
    W Try.prog ty (fun _ _ _ _ => False) (loopAt Try.f113 10) (loopPost L_spec_l01Circle_10_sp [(4, (⟨L_spec_l01Circle_10_e4, D4⟩ : Door))] ⟨L_spec_l01Circle_10_rt, R⟩ (fun v w => N ((fun v => (v.1, v.2.1, v.2.2.1, v.2.2.2.1, v.2.2.2.2.1, v.2.2.2.2.2.1)) v) ((fun v => (v.2.2.2.2.2.2.1, v.2.2.2.2.2.2.2.1)) v) w)) (mkT j 0 L_spec_l01Circle_10_sp ((fun u s => (u.1, u.2.1, u.2.2.1, u.2.2.2.1, u.2.2.2.2.1, u.2.2.2.2.2, s.1, s.2, ())) u s)) w =
    B_spec_l01Circle_10 u.1 u.2.1 u.2.2.1 u.2.2.2.1 u.2.2.2.2.1 u.2.2.2.2.2 s.1 s.2 N D4 w := by
  kernel_rfl

def O_spec_l01Circle_1 : Code → Post → List SV → World → Prop :=
  orc 10 (loopAt Try.f113 10) L_spec_l01Circle_10_sp (fun Φ fr w => LOOP (U := (Int × Value × Value × Value × Int × Int)) (S := (Int × Int)) ((fun v => (v.1, v.2.1, v.2.2.1, v.2.2.2.1, v.2.2.2.2.1, v.2.2.2.2.2.1)) (extT L_spec_l01Circle_10_sp fr)) (L_spec_l01Circle_10_b Φ ((fun v => (v.1, v.2.1, v.2.2.1, v.2.2.2.1, v.2.2.2.2.1, v.2.2.2.2.2.1)) (extT L_spec_l01Circle_10_sp fr))) ((fun v => (v.2.2.2.2.2.2.1, v.2.2.2.2.2.2.2.1)) (extT L_spec_l01Circle_10_sp fr)) w) (fun _ _ _ _ => False)

theorem O_spec_l01Circle_1_ok : Sound Try.prog O_spec_l01Circle_1 :=
  orc_ok (sound_none _) fun Φ fr w hs h => loop_ok (ty := ty) follows (sound_none _) L_spec_l01Circle_10_sp (fun v => (v.1, v.2.1, v.2.2.1, v.2.2.2.1, v.2.2.2.2.1, v.2.2.2.2.2.1)) (fun v => (v.2.2.2.2.2.2.1, v.2.2.2.2.2.2.2.1)) (fun u s => (u.1, u.2.1, u.2.2.1, u.2.2.2.1, u.2.2.2.2.1, u.2.2.2.2.2, s.1, s.2, ())) (fun _ => rfl) L_spec_l01Circle_10_ex L_spec_l01Circle_10_rt (body := L_spec_l01Circle_10_b Φ) (fun j u s w N hb => by
    have e := L_spec_l01Circle_10_eq j u s N (doorOf Φ (.exit 4) L_spec_l01Circle_10_e4).D (doorOf Φ .ret L_spec_l01Circle_10_rt).D w
    exact Eq.mpr e hb) hs h

def B_spec_l01Circle_6 (n0 : Int) (list1 : Value) (x4 : Value) (out5 : Value) (j6 : Int) (i7 : Int) (N : (Int × Value × Value × Value × Int) → Int → World → Prop) (D2 : (Int × Value × Value × Value × Int × Unit) → World → Prop) (w : World) : Prop :=
  (((decide (i7 < j6)) = true → (At (loopAt Try.f113 10) (loopAt Try.f113 10) (LOOP (U := (Int × Value × Value × Value × Int × Int)) (S := (Int × Int)) (n0, (list1 : Value), (x4 : Value), (out5 : Value), j6, i7) (fun N_21 s_22 w_23 => B_spec_l01Circle_10 n0 (list1 : Value) (x4 : Value) (out5 : Value) j6 i7 s_22.1 s_22.2 N_21 (fun (v_12 : (Int × Value × Value × Value × Int × Int × Int × Unit)) w_13 => ∀ _j_14 : Nat → Value, (Fc Try.prog 66 #[(.int .i64 v_12.2.2.2.2.2.1), (.int .i64 v_12.2.2.2.2.1)] w_13 (.one (.int .i64)) fun (x38_16 : Int) w_15 => (QAll Try.prog (Instr.fieldAt 28 v_12.2.2.2.1 2) .any fun (x40_17 : Value) => (QAll Try.prog (Instr.indexAt 26 x40_17 (.int .i64 x38_16)) .any fun (x41_18 : Value) => (PrU Try.prog (Instr.storeAt 5 x41_18 (.int .u8 v_12.2.2.2.2.2.2.1)) w_15 fun w_19 => N (v_12.1, (v_12.2.1 : Value), (v_12.2.2.1 : Value), (v_12.2.2.2.1 : Value), v_12.2.2.2.2.1) (IntKind.i64.wrap (v_12.2.2.2.2.2.1 + (1 : Int))) w_19))))) w_23) ((1 : Int), (0 : Int)) w))) ∧ ((decide (i7 < j6)) = false → D2 (n0, (list1 : Value), (x4 : Value), (out5 : Value), j6, ()) w))

abbrev L_spec_l01Circle_6_e2 : List Slot := [.k (.int .i64), .k .any, .junk, .junk, .k .any, .k .any, .k (.int .i64), .junk, .junk, .junk, .junk, .junk, .junk, .junk, .junk, .junk, .junk, .junk, .junk, .junk, .junk, .junk, .junk, .junk, .junk, .junk, .junk, .junk, .junk, .junk, .junk, .junk, .junk, .junk, .junk, .junk, .junk, .junk, .junk, .junk, .junk, .junk, .junk]

abbrev L_spec_l01Circle_6_sp : List Slot := [.k (.int .i64), .k .any, .junk, .junk, .k .any, .k .any, .k (.int .i64), .k (.int .i64), .junk, .junk, .junk, .junk, .junk, .junk, .junk, .junk, .junk, .junk, .junk, .junk, .junk, .junk, .junk, .junk, .junk, .junk, .junk, .junk, .junk, .junk, .junk, .junk, .junk, .junk, .junk, .junk, .junk, .junk, .junk, .junk, .junk, .junk, .junk]
abbrev L_spec_l01Circle_6_ex : List (Nat × List Slot) := [(2, L_spec_l01Circle_6_e2)]
abbrev L_spec_l01Circle_6_rt : List Slot := [.junk, .junk, .junk, .junk, .junk, .junk, .junk, .junk, .junk, .junk, .junk, .junk, .junk, .junk, .junk, .junk, .junk, .junk, .junk, .junk, .junk, .junk, .junk, .junk, .junk, .junk, .junk, .junk, .junk, .junk, .junk, .junk, .junk, .junk, .junk, .junk, .junk, .junk, .junk, .junk, .junk, .junk, .junk]

def L_spec_l01Circle_6_b (Φ : Post) (u : (Int × Value × Value × Value × Int)) (N : (Int × Value × Value × Value × Int) → Int → World → Prop) (s : Int) (w : World) : Prop :=
  B_spec_l01Circle_6 u.1 u.2.1 u.2.2.1 u.2.2.2.1 u.2.2.2.2 s N (fun v w => ∀ j : Nat → Value, Φ (.exit 2) (mkT j 0 L_spec_l01Circle_6_e2 v) w) w

theorem L_spec_l01Circle_6_eq (j : Nat → Value) (u : (Int × Value × Value × Value × Int)) (s : Int) (N : (Int × Value × Value × Value × Int) → Int → World → Prop) (D2 : (Int × Value × Value × Value × Int × Unit) → World → Prop) (R : (Unit) → World → Prop) (w : World) :
    W Try.prog ty O_spec_l01Circle_1 (loopAt Try.f113 6) (loopPost L_spec_l01Circle_6_sp [(2, (⟨L_spec_l01Circle_6_e2, D2⟩ : Door))] ⟨L_spec_l01Circle_6_rt, R⟩ (fun v w => N ((fun v => (v.1, v.2.1, v.2.2.1, v.2.2.2.1, v.2.2.2.2.1)) v) ((fun v => v.2.2.2.2.2.1) v) w)) (mkT j 0 L_spec_l01Circle_6_sp ((fun u s => (u.1, u.2.1, u.2.2.1, u.2.2.2.1, u.2.2.2.2, s, ())) u s)) w =
    B_spec_l01Circle_6 u.1 u.2.1 u.2.2.1 u.2.2.2.1 u.2.2.2.2 s N D2 w := by
  kernel_rfl

def O_spec_l01Circle_2 : Code → Post → List SV → World → Prop :=
  orc 6 (loopAt Try.f113 6) L_spec_l01Circle_6_sp (fun Φ fr w => LOOP (U := (Int × Value × Value × Value × Int)) (S := Int) ((fun v => (v.1, v.2.1, v.2.2.1, v.2.2.2.1, v.2.2.2.2.1)) (extT L_spec_l01Circle_6_sp fr)) (L_spec_l01Circle_6_b Φ ((fun v => (v.1, v.2.1, v.2.2.1, v.2.2.2.1, v.2.2.2.2.1)) (extT L_spec_l01Circle_6_sp fr))) ((fun v => v.2.2.2.2.2.1) (extT L_spec_l01Circle_6_sp fr)) w) O_spec_l01Circle_1

theorem O_spec_l01Circle_2_ok : Sound Try.prog O_spec_l01Circle_2 :=
  orc_ok O_spec_l01Circle_1_ok fun Φ fr w hs h => loop_ok (ty := ty) follows O_spec_l01Circle_1_ok L_spec_l01Circle_6_sp (fun v => (v.1, v.2.1, v.2.2.1, v.2.2.2.1, v.2.2.2.2.1)) (fun v => v.2.2.2.2.2.1) (fun u s => (u.1, u.2.1, u.2.2.1, u.2.2.2.1, u.2.2.2.2, s, ())) (fun _ => rfl) L_spec_l01Circle_6_ex L_spec_l01Circle_6_rt (body := L_spec_l01Circle_6_b Φ) (fun j u s w N hb => by
    have e := L_spec_l01Circle_6_eq j u s N (doorOf Φ (.exit 2) L_spec_l01Circle_6_e2).D (doorOf Φ .ret L_spec_l01Circle_6_rt).D w
    exact Eq.mpr e hb) hs h

def B_spec_l01Circle_3 (n0 : Int) (list1 : Value) (x4 : Value) (out5 : Value) (j6 : Int) (N : (Int × Value × Value × Value) → Int → World → Prop) (D0 : (Value × Value × Unit) → World → Prop) (w : World) : Prop :=
  (((decide (j6 < n0)) = true → (At (loopAt Try.f113 6) (loopAt Try.f113 6) (LOOP (U := (Int × Value × Value × Value × Int)) (S := Int) (n0, (list1 : Value), (x4 : Value), (out5 : Value), j6) (fun N_27 s_28 w_29 => B_spec_l01Circle_6 n0 (list1 : Value) (x4 : Value) (out5 : Value) j6 s_28 N_27 (fun (v_24 : (Int × Value × Value × Value × Int × Unit)) w_25 => ∀ _j_26 : Nat → Value, N (v_24.1, (v_24.2.1 : Value), (v_24.2.2.1 : Value), (v_24.2.2.2.1 : Value)) (IntKind.i64.wrap (v_24.2.2.2.2.1 + (1 : Int))) w_25) w_29) (0 : Int) w))) ∧ ((decide (j6 < n0)) = false → D0 ((x4 : Value), (out5 : Value), ()) w))

abbrev L_spec_l01Circle_3_e0 : List Slot := [.junk, .junk, .junk, .junk, .k .any, .k .any, .junk, .junk, .junk, .junk, .junk, .junk, .junk, .junk, .junk, .junk, .junk, .junk, .junk, .junk, .junk, .junk, .junk, .junk, .junk, .junk, .junk, .junk, .junk, .junk, .junk, .junk, .junk, .junk, .junk, .junk, .junk, .junk, .junk, .junk, .junk, .junk, .junk]

abbrev L_spec_l01Circle_3_sp : List Slot := [.k (.int .i64), .k .any, .junk, .junk, .k .any, .k .any, .k (.int .i64), .junk, .junk, .junk, .junk, .junk, .junk, .junk, .junk, .junk, .junk, .junk, .junk, .junk, .junk, .junk, .junk, .junk, .junk, .junk, .junk, .junk, .junk, .junk, .junk, .junk, .junk, .junk, .junk, .junk, .junk, .junk, .junk, .junk, .junk, .junk, .junk]
abbrev L_spec_l01Circle_3_ex : List (Nat × List Slot) := [(0, L_spec_l01Circle_3_e0)]
abbrev L_spec_l01Circle_3_rt : List Slot := [.junk, .junk, .junk, .junk, .junk, .junk, .junk, .junk, .junk, .junk, .junk, .junk, .junk, .junk, .junk, .junk, .junk, .junk, .junk, .junk, .junk, .junk, .junk, .junk, .junk, .junk, .junk, .junk, .junk, .junk, .junk, .junk, .junk, .junk, .junk, .junk, .junk, .junk, .junk, .junk, .junk, .junk, .junk]

def L_spec_l01Circle_3_b (Φ : Post) (u : (Int × Value × Value × Value)) (N : (Int × Value × Value × Value) → Int → World → Prop) (s : Int) (w : World) : Prop :=
  B_spec_l01Circle_3 u.1 u.2.1 u.2.2.1 u.2.2.2 s N (fun v w => ∀ j : Nat → Value, Φ (.exit 0) (mkT j 0 L_spec_l01Circle_3_e0 v) w) w

theorem L_spec_l01Circle_3_eq (j : Nat → Value) (u : (Int × Value × Value × Value)) (s : Int) (N : (Int × Value × Value × Value) → Int → World → Prop) (D0 : (Value × Value × Unit) → World → Prop) (R : (Unit) → World → Prop) (w : World) :
    W Try.prog ty O_spec_l01Circle_2 (loopAt Try.f113 3) (loopPost L_spec_l01Circle_3_sp [(0, (⟨L_spec_l01Circle_3_e0, D0⟩ : Door))] ⟨L_spec_l01Circle_3_rt, R⟩ (fun v w => N ((fun v => (v.1, v.2.1, v.2.2.1, v.2.2.2.1)) v) ((fun v => v.2.2.2.2.1) v) w)) (mkT j 0 L_spec_l01Circle_3_sp ((fun u s => (u.1, u.2.1, u.2.2.1, u.2.2.2, s, ())) u s)) w =
    B_spec_l01Circle_3 u.1 u.2.1 u.2.2.1 u.2.2.2 s N D0 w := by
  kernel_rfl

def O_spec_l01Circle_3 : Code → Post → List SV → World → Prop :=
  orc 3 (loopAt Try.f113 3) L_spec_l01Circle_3_sp (fun Φ fr w => LOOP (U := (Int × Value × Value × Value)) (S := Int) ((fun v => (v.1, v.2.1, v.2.2.1, v.2.2.2.1)) (extT L_spec_l01Circle_3_sp fr)) (L_spec_l01Circle_3_b Φ ((fun v => (v.1, v.2.1, v.2.2.1, v.2.2.2.1)) (extT L_spec_l01Circle_3_sp fr))) ((fun v => v.2.2.2.2.1) (extT L_spec_l01Circle_3_sp fr)) w) O_spec_l01Circle_2

theorem O_spec_l01Circle_3_ok : Sound Try.prog O_spec_l01Circle_3 :=
  orc_ok O_spec_l01Circle_2_ok fun Φ fr w hs h => loop_ok (ty := ty) follows O_spec_l01Circle_2_ok L_spec_l01Circle_3_sp (fun v => (v.1, v.2.1, v.2.2.1, v.2.2.2.1)) (fun v => v.2.2.2.2.1) (fun u s => (u.1, u.2.1, u.2.2.1, u.2.2.2, s, ())) (fun _ => rfl) L_spec_l01Circle_3_ex L_spec_l01Circle_3_rt (body := L_spec_l01Circle_3_b Φ) (fun j u s w N hb => by
    have e := L_spec_l01Circle_3_eq j u s N (doorOf Φ (.exit 0) L_spec_l01Circle_3_e0).D (doorOf Φ .ret L_spec_l01Circle_3_rt).D w
    exact Eq.mpr e hb) hs h

def V_spec_l01Circle (n0 : Int) (list1 : Value) (w : World) (K : Value → World → Prop) : Prop :=
  (Pr Try.prog (Instr.alloc 28 true (.tuple #[])) w (.one .any) fun (x4_2 : Value) w_1 => (Pr Try.prog (Instr.build 28 #[(0, (.int .i64 n0)), (1, (.int .i64 (2 : Int)))]) w_1 (.one .any) fun (x11_4 : Value) w_3 => (Pr Try.prog (Instr.alloc 28 true (.tuple #[])) w_3 (.one .any) fun (out5_6 : Value) w_5 => (PrU Try.prog (Instr.storeAt 28 out5_6 x11_4) w_5 fun w_7 => (At (loopAt Try.f113 3) (loopAt Try.f113 3) (LOOP (U := (Int × Value × Value × Value)) (S := Int) (n0, (list1 : Value), (x4_2 : Value), (out5_6 : Value)) (fun N_37 s_38 w_39 => B_spec_l01Circle_3 n0 (list1 : Value) (x4_2 : Value) (out5_6 : Value) s_38 N_37 (fun (v_30 : (Value × Value × Unit)) w_31 => ∀ _j_32 : Nat → Value, (QSub Try.prog (Instr.loadAt 28 v_30.2.1) w_31 .any fun (x42_33 : Value) => (PrU Try.prog (Instr.storeAt 28 v_30.1 x42_33) w_31 fun w_34 => (QSub Try.prog (Instr.loadAt 28 v_30.1) w_34 .any fun (r_36 : Value) => K (r_36 : Value) w_34)))) w_39) (1 : Int) w_7))))))

theorem eq_spec_l01Circle (n0 : Int) (list1 : Value) (w : World) (K : Value → World → Prop) :
    W Try.prog ty O_spec_l01Circle_3 (bodyOf Try.f113) (fnPost Try.prog Try.f113.results.toList (.one .any) K) (frame0 [(.int .i64 n0), list1] 43) w = V_spec_l01Circle n0 list1 w K := by
  kernel_rfl

theorem body_spec_l01Circle : Try.f113.body = some (bodyOf Try.f113) := by kernel_rfl
theorem name_spec_l01Circle : (Try.f113.name == "runtime.NumGoroutine") = false := by kernel_rfl

theorem walk_spec_l01Circle (n0 : Int) (list1 : Value) {w : World} {K : Value → World → Prop} (h : V_spec_l01Circle n0 list1 w K) : Fc Try.prog 113 #[(.int .i64 n0), list1] w (.one .any) K :=
  fn_ok follows O_spec_l01Circle_3_ok Try.func113 name_spec_l01Circle body_spec_l01Circle Try.ntmps113 [(.int .i64 n0), list1] (Eq.mpr (eq_spec_l01Circle n0 list1 w K) h)

-- uses S9Nam
theorem c_spec_l01Circle {n : Int} {a : Value} {l : List Int} {w : World} {K : Value → World → Prop} (n0 : 1 ≤ n) (n1 : n ≤ 17) (ha : SlI w a l)
    (hK : ∀ w', Below w.heap.size w w' → K (colG n 2 (ciG l)).val w') : Fc Try.prog F_spec_l01Circle #[.int .i64 n, a] w (.one .any) K := by
  have hok := ci_ok l (n := n) (by omega) n1
  refine walk_spec_l01Circle _ _ (tri_start (ciG l) fun p b w1 ht => ?_)
  refine lp (fun j w' => 1 ≤ j ∧ j ≤ n ∧ Tri w w' p b n 2 (ciG l) (edgesOf j)) (fun j _ => (n - j).toNat) ⟨by omega, by omega, ht⟩ ?_
  rintro j w2 N ⟨j0, j1, h2⟩ hN
  unfold B_spec_l01Circle_3
  refine ⟨fun hlt => ?_, fun hge => ?_⟩
  · have hlt := dec_t hlt
    refine lp (fun i w' => 0 ≤ i ∧ i ≤ j ∧ Tri w w' p b n 2 (ciG l) (edgesOf j + i)) (fun i _ => (j - i).toNat) ⟨by omega, by omega, by rw [Int.add_zero]; exact h2⟩ ?_
    rintro i w3 N' ⟨i0, i1, h3⟩ hN'
    unfold B_spec_l01Circle_6
    refine ⟨fun hlt2 => ?_, fun hge2 => ?_⟩
    · have hlt2 := dec_t hlt2
      have hs := ha.keep h3.bel
      have hlen := hs.len
      refine lp (fun s w' => w' = w3 ∧ ∃ k : Nat, s.2 = k ∧ k ≤ l.length ∧ s.1 = if (l.take k).contains (j - i) then 0 else 1) (fun s _ => (l.length - s.2).toNat) ⟨rfl, 0, rfl, by omega, by simp⟩ ?_
      rintro ⟨own, k'⟩ w4 N'' ⟨rfl, k, hk, hkl, ho⟩ hN''
      simp only at hk ho
      subst hk
      unfold B_spec_l01Circle_10
      dsimp only
      refine lenI hs ⟨fun hlt3 => ?_, fun hge3 => ?_⟩
      · have hlt3 := dec_t hlt3
        have hkl : k < l.length := by omega
        have htk : l.take (k + 1) = l.take k ++ [l.getD k 0] := by rw [List.take_succ_eq_append_getElem hkl]; simp [hkl]
        refine atI hs (by omega) (by omega) ?_
        rw [Int.toNat_natCast, wrap_small (n := j - i) (by omega) (by omega), wrap_small (n := (k : Int) + 1) (by omega) (by omega)]
        refine ⟨fun he => ?_, fun hn => ?_⟩
        · have he := eq_t he
          refine hN'' _ _ ⟨rfl, k + 1, by simp only; omega, by omega, ?_⟩ (by simp only; omega)
          simp only [htk, he]
          simp
        · have hn := eq_f hn
          refine hN'' _ _ ⟨rfl, k + 1, by simp only; omega, by omega, ?_⟩ (by simp only; omega)
          simp only [htk, ho]
          have : ((l.take k ++ [l.getD k 0]).contains (j - i)) = (l.take k).contains (j - i) := by
            rw [Bool.eq_iff_iff]
            simp only [List.contains_iff_mem, List.mem_append, List.mem_singleton]
            exact ⟨fun h => h.elim id fun h => absurd h.symm hn, .inl⟩
          rw [this]
      · have hge3 := dec_f hge3
        intro _
        have : k = l.length := by omega
        subst this
        rw [List.take_length] at ho
        have hg : own = ciG l i j := ho
        subst hg
        refine c_spec_l01Edge i0 (by omega) (by omega) (by omega) (fldp f2 (h3.put i0 hlt2 (by omega) fun w4 h4 => ?_))
        show N' _ (IntKind.i64.wrap (i + 1)) w4
        rw [wrap_small (by omega) (by omega)]
        exact hN' _ _ ⟨by omega, by omega, h4⟩ (by omega)
    · have hge2 := dec_f hge2
      have : i = j := by omega
      subst this
      intro _
      show N _ (IntKind.i64.wrap (i + 1)) w3
      rw [wrap_small (by omega) (by omega)]
      exact hN _ _ ⟨by omega, by omega, by rw [edgesOf_succ]; exact h3⟩ (by omega)
  · have hge := dec_f hge
    have : j = n := by omega
    subst this
    intro _
    exact tri_end hok h2 hK

end Go.Proofs.Ytdkodhonaoecnaa
