/- The reading of spec_l01Named, and its contract. No condition. -/
import Derived.Test.YtdkodhonaoecnaaTy
import Derived.Test.YtdkodhonaoecnaaS9Nam
import Derived.Test.YtdkodhonaoecnaaFspecUl01Circle
import Derived.Test.YtdkodhonaoecnaaFspecUl01Edge
namespace Go.Proofs.Ytdkodhonaoecnaa
open Go Go.RowKit Eng Mem
set_option linter.unusedVariables false
set_option maxRecDepth 100000
def B_spec_l01Named_17 (x2 : Value) (kinds4 : Value) (out5 : Value) (j6 : Int) (i7 : Int) (N : (Value × Value × Value × Int) → Int → World → Prop) (D3 : (Value × Value × Value × Int × Unit) → World → Prop) (w : World) : Prop :=
  (((decide (i7 < j6)) = true → (∀ w_44, Drew w w_44 → (QAll Try.prog (Instr.indexAt 96 kinds4 (.int .i64 (IntKind.i64.wrap ((BitVec.toNat (BitVec.ofInt (IntKind.bits .i64) i7 ^^^ BitVec.ofInt (IntKind.bits .i64) j6) : Nat))))) .any fun (x45_45 : Value) => (QSub Try.prog (Instr.loadAt 5 x45_45) w_44 (.int .u8) fun (x46_46 : Int) => (QAll Try.prog (Instr.fieldAt 28 out5 2) .any fun (x47_47 : Value) => (Fc Try.prog 66 #[(.int .i64 i7), (.int .i64 j6)] w_44 (.one (.int .i64)) fun (x40_49 : Int) w_48 => (Keeps w_44 w_48 ((QAll Try.prog (Instr.indexAt 26 x47_47 (.int .i64 x40_49)) .any fun (x48_50 : Value) => (PrU Try.prog (Instr.storeAt 5 x48_50 (.int .u8 x46_46)) w_48 fun w_51 => N ((x2 : Value), (kinds4 : Value), (out5 : Value), j6) (IntKind.i64.wrap (i7 + (1 : Int))) w_51)))))))))) ∧ ((decide (i7 < j6)) = false → D3 ((x2 : Value), (kinds4 : Value), (out5 : Value), j6, ()) w))

abbrev L_spec_l01Named_17_e3 : List Slot := [.junk, .junk, .k .any, .junk, .k .any, .k .any, .k (.int .i64), .junk, .junk, .junk, .junk, .junk, .junk, .junk, .junk, .junk, .junk, .junk, .junk, .junk, .junk, .junk, .junk, .junk, .junk, .junk, .junk, .junk, .junk, .junk, .junk, .junk, .junk, .junk, .junk, .junk, .junk, .junk, .junk, .junk, .junk, .junk, .junk, .junk, .junk, .junk, .junk, .junk, .junk, .junk, .junk]

abbrev L_spec_l01Named_17_sp : List Slot := [.junk, .junk, .k .any, .junk, .k .any, .k .any, .k (.int .i64), .k (.int .i64), .junk, .junk, .junk, .junk, .junk, .junk, .junk, .junk, .junk, .junk, .junk, .junk, .junk, .junk, .junk, .junk, .junk, .junk, .junk, .junk, .junk, .junk, .junk, .junk, .junk, .junk, .junk, .junk, .junk, .junk, .junk, .junk, .junk, .junk, .junk, .junk, .junk, .junk, .junk, .junk, .junk, .junk, .junk]
abbrev L_spec_l01Named_17_ex : List (Nat × List Slot) := [(3, L_spec_l01Named_17_e3)]
abbrev L_spec_l01Named_17_rt : List Slot := [.junk, .junk, .junk, .junk, .junk, .junk, .junk, .junk, .junk, .junk, .junk, .junk, .junk, .junk, .junk, .junk, .junk, .junk, .junk, .junk, .junk, .junk, .junk, .junk, .junk, .junk, .junk, .junk, .junk, .junk, .junk, .junk, .junk, .junk, .junk, .junk, .junk, .junk, .junk, .junk, .junk, .junk, .junk, .junk, .junk, .junk, .junk, .junk, .junk, .junk, .junk]

def L_spec_l01Named_17_b (Φ : Post) (u : (Value × Value × Value × Int)) (N : (Value × Value × Value × Int) → Int → World → Prop) (s : Int) (w : World) : Prop :=
  B_spec_l01Named_17 u.1 u.2.1 u.2.2.1 u.2.2.2 s N (fun v w => ∀ j : Nat → Value, Φ (.exit 3) (mkT j 0 L_spec_l01Named_17_e3 v) w) w

theorem L_spec_l01Named_17_eq (j : Nat → Value) (u : (Value × Value × Value × Int)) (s : Int) (N : (Value × Value × Value × Int) → Int → World → Prop) (D3 : (Value × Value × Value × Int × Unit) → World → Prop) (R : (Unit) → World → Prop) (w : World) :
    W Try.prog ty (fun _ _ _ _ => False) (loopAt Try.f77 17) (loopPost L_spec_l01Named_17_sp [(3, (⟨L_spec_l01Named_17_e3, D3⟩ : Door))] ⟨L_spec_l01Named_17_rt, R⟩ (fun v w => N ((fun v => (v.1, v.2.1, v.2.2.1, v.2.2.2.1)) v) ((fun v => v.2.2.2.2.1) v) w)) (mkT j 0 L_spec_l01Named_17_sp ((fun u s => (u.1, u.2.1, u.2.2.1, u.2.2.2, s, ())) u s)) w =
    B_spec_l01Named_17 u.1 u.2.1 u.2.2.1 u.2.2.2 s N D3 w := by
  kernel_rfl

def O_spec_l01Named_1 : Code → Post → List SV → World → Prop :=
  orc 17 (loopAt Try.f77 17) L_spec_l01Named_17_sp (fun Φ fr w => LOOP (U := (Value × Value × Value × Int)) (S := Int) ((fun v => (v.1, v.2.1, v.2.2.1, v.2.2.2.1)) (extT L_spec_l01Named_17_sp fr)) (L_spec_l01Named_17_b Φ ((fun v => (v.1, v.2.1, v.2.2.1, v.2.2.2.1)) (extT L_spec_l01Named_17_sp fr))) ((fun v => v.2.2.2.2.1) (extT L_spec_l01Named_17_sp fr)) w) (fun _ _ _ _ => False)

theorem O_spec_l01Named_1_ok : Sound Try.prog O_spec_l01Named_1 :=
  orc_ok (sound_none _) fun Φ fr w hs h => loop_ok (ty := ty) follows (sound_none _) L_spec_l01Named_17_sp (fun v => (v.1, v.2.1, v.2.2.1, v.2.2.2.1)) (fun v => v.2.2.2.2.1) (fun u s => (u.1, u.2.1, u.2.2.1, u.2.2.2, s, ())) (fun _ => rfl) L_spec_l01Named_17_ex L_spec_l01Named_17_rt (body := L_spec_l01Named_17_b Φ) (fun j u s w N hb => by
    have e := L_spec_l01Named_17_eq j u s N (doorOf Φ (.exit 3) L_spec_l01Named_17_e3).D (doorOf Φ .ret L_spec_l01Named_17_rt).D w
    exact Eq.mpr e hb) hs h

def B_spec_l01Named_14 (x2 : Value) (kinds4 : Value) (out5 : Value) (j6 : Int) (N : (Value × Value × Value) → Int → World → Prop) (D1 : (Value × Value × Unit) → World → Prop) (w : World) : Prop :=
  (((decide (j6 < (16 : Int))) = true → (At (loopAt Try.f77 17) (loopAt Try.f77 17) (LOOP (U := (Value × Value × Value × Int)) (S := Int) ((x2 : Value), (kinds4 : Value), (out5 : Value), j6) (fun N_56 s_57 w_58 => B_spec_l01Named_17 (x2 : Value) (kinds4 : Value) (out5 : Value) j6 s_57 N_56 (fun (v_53 : (Value × Value × Value × Int × Unit)) w_54 => ∀ _j_55 : Nat → Value, N ((v_53.1 : Value), (v_53.2.1 : Value), (v_53.2.2.1 : Value)) (IntKind.i64.wrap (v_53.2.2.2.1 + (1 : Int))) w_54) w_58) (0 : Int) w))) ∧ ((decide (j6 < (16 : Int))) = false → D1 ((x2 : Value), (out5 : Value), ()) w))

abbrev L_spec_l01Named_14_e1 : List Slot := [.junk, .junk, .k .any, .junk, .junk, .k .any, .junk, .junk, .junk, .junk, .junk, .junk, .junk, .junk, .junk, .junk, .junk, .junk, .junk, .junk, .junk, .junk, .junk, .junk, .junk, .junk, .junk, .junk, .junk, .junk, .junk, .junk, .junk, .junk, .junk, .junk, .junk, .junk, .junk, .junk, .junk, .junk, .junk, .junk, .junk, .junk, .junk, .junk, .junk, .junk, .junk]

abbrev L_spec_l01Named_14_sp : List Slot := [.junk, .junk, .k .any, .junk, .k .any, .k .any, .k (.int .i64), .junk, .junk, .junk, .junk, .junk, .junk, .junk, .junk, .junk, .junk, .junk, .junk, .junk, .junk, .junk, .junk, .junk, .junk, .junk, .junk, .junk, .junk, .junk, .junk, .junk, .junk, .junk, .junk, .junk, .junk, .junk, .junk, .junk, .junk, .junk, .junk, .junk, .junk, .junk, .junk, .junk, .junk, .junk, .junk]
abbrev L_spec_l01Named_14_ex : List (Nat × List Slot) := [(1, L_spec_l01Named_14_e1)]
abbrev L_spec_l01Named_14_rt : List Slot := [.junk, .junk, .junk, .junk, .junk, .junk, .junk, .junk, .junk, .junk, .junk, .junk, .junk, .junk, .junk, .junk, .junk, .junk, .junk, .junk, .junk, .junk, .junk, .junk, .junk, .junk, .junk, .junk, .junk, .junk, .junk, .junk, .junk, .junk, .junk, .junk, .junk, .junk, .junk, .junk, .junk, .junk, .junk, .junk, .junk, .junk, .junk, .junk, .junk, .junk, .junk]

def L_spec_l01Named_14_b (Φ : Post) (u : (Value × Value × Value)) (N : (Value × Value × Value) → Int → World → Prop) (s : Int) (w : World) : Prop :=
  B_spec_l01Named_14 u.1 u.2.1 u.2.2 s N (fun v w => ∀ j : Nat → Value, Φ (.exit 1) (mkT j 0 L_spec_l01Named_14_e1 v) w) w

theorem L_spec_l01Named_14_eq (j : Nat → Value) (u : (Value × Value × Value)) (s : Int) (N : (Value × Value × Value) → Int → World → Prop) (D1 : (Value × Value × Unit) → World → Prop) (R : (Unit) → World → Prop) (w : World) :
    W Try.prog ty O_spec_l01Named_1 (loopAt Try.f77 14) (loopPost L_spec_l01Named_14_sp [(1, (⟨L_spec_l01Named_14_e1, D1⟩ : Door))] ⟨L_spec_l01Named_14_rt, R⟩ (fun v w => N ((fun v => (v.1, v.2.1, v.2.2.1)) v) ((fun v => v.2.2.2.1) v) w)) (mkT j 0 L_spec_l01Named_14_sp ((fun u s => (u.1, u.2.1, u.2.2, s, ())) u s)) w =
    B_spec_l01Named_14 u.1 u.2.1 u.2.2 s N D1 w := by
  kernel_rfl

def O_spec_l01Named_2 : Code → Post → List SV → World → Prop :=
  orc 14 (loopAt Try.f77 14) L_spec_l01Named_14_sp (fun Φ fr w => LOOP (U := (Value × Value × Value)) (S := Int) ((fun v => (v.1, v.2.1, v.2.2.1)) (extT L_spec_l01Named_14_sp fr)) (L_spec_l01Named_14_b Φ ((fun v => (v.1, v.2.1, v.2.2.1)) (extT L_spec_l01Named_14_sp fr))) ((fun v => v.2.2.2.1) (extT L_spec_l01Named_14_sp fr)) w) O_spec_l01Named_1

theorem O_spec_l01Named_2_ok : Sound Try.prog O_spec_l01Named_2 :=
  orc_ok O_spec_l01Named_1_ok fun Φ fr w hs h => loop_ok (ty := ty) follows O_spec_l01Named_1_ok L_spec_l01Named_14_sp (fun v => (v.1, v.2.1, v.2.2.1)) (fun v => v.2.2.2.1) (fun u s => (u.1, u.2.1, u.2.2, s, ())) (fun _ => rfl) L_spec_l01Named_14_ex L_spec_l01Named_14_rt (body := L_spec_l01Named_14_b Φ) (fun j u s w N hb => by
    have e := L_spec_l01Named_14_eq j u s N (doorOf Φ (.exit 1) L_spec_l01Named_14_e1).D (doorOf Φ .ret L_spec_l01Named_14_rt).D w
    exact Eq.mpr e hb) hs h

def V_spec_l01Named (name0 : ByteArray) (w : World) (K : (Value × Bool) → World → Prop) : Prop :=
  (Pr Try.prog (Instr.alloc 28 true (.tuple #[])) w (.one .any) fun (x2_2 : Value) w_1 => (QAll Try.prog (do eqGuard .eql 9 (.tmp 8) (.const (.string (⟨#[112, 101, 110, 116, 97, 103, 111, 110]⟩))) (.string name0) (.string (⟨#[112, 101, 110, 116, 97, 103, 111, 110]⟩)); binOp .eql 9 (.string name0) (.string (⟨#[112, 101, 110, 116, 97, 103, 111, 110]⟩))) .bool fun (x10_3 : Bool) => ((x10_3 = true → (Pr Try.prog (Instr.buildSlice 25 2 #[(0, (.int .i64 (1 : Int))), (1, (.int .i64 (4 : Int)))]) w_1 (.one .any) fun (x11_5 : Value) w_4 => (Fc Try.prog 113 #[(.int .i64 (5 : Int)), x11_5] w_4 (.one .any) fun (x12_7 : Value) w_6 => (PrU Try.prog (Instr.storeAt 28 x2_2 x12_7) w_6 fun w_8 => (QSub Try.prog (Instr.loadAt 28 x2_2) w_8 .any fun (r_10 : Value) => K ((r_10 : Value), true) w_8))))) ∧ (x10_3 = false → (QAll Try.prog (do eqGuard .eql 9 (.tmp 8) (.const (.string (⟨#[101, 105, 103, 104, 116]⟩))) (.string name0) (.string (⟨#[101, 105, 103, 104, 116]⟩)); binOp .eql 9 (.string name0) (.string (⟨#[101, 105, 103, 104, 116]⟩))) .bool fun (x14_11 : Bool) => ((x14_11 = true → (Pr Try.prog (Instr.buildSlice 25 3 #[(0, (.int .i64 (1 : Int))), (1, (.int .i64 (4 : Int))), (2, (.int .i64 (7 : Int)))]) w_1 (.one .any) fun (x15_13 : Value) w_12 => (Fc Try.prog 113 #[(.int .i64 (8 : Int)), x15_13] w_12 (.one .any) fun (x16_15 : Value) w_14 => (PrU Try.prog (Instr.storeAt 28 x2_2 x16_15) w_14 fun w_16 => (QSub Try.prog (Instr.loadAt 28 x2_2) w_16 .any fun (r_18 : Value) => K ((r_18 : Value), true) w_16))))) ∧ (x14_11 = false → (QAll Try.prog (do eqGuard .eql 9 (.tmp 8) (.const (.string (⟨#[116, 104, 105, 114, 116, 101, 101, 110]⟩))) (.string name0) (.string (⟨#[116, 104, 105, 114, 116, 101, 101, 110]⟩)); binOp .eql 9 (.string name0) (.string (⟨#[116, 104, 105, 114, 116, 101, 101, 110]⟩))) .bool fun (x18_19 : Bool) => ((x18_19 = true → (Pr Try.prog (Instr.buildSlice 25 4 #[(0, (.int .i64 (1 : Int))), (1, (.int .i64 (5 : Int))), (2, (.int .i64 (8 : Int))), (3, (.int .i64 (12 : Int)))]) w_1 (.one .any) fun (x19_21 : Value) w_20 => (Fc Try.prog 113 #[(.int .i64 (13 : Int)), x19_21] w_20 (.one .any) fun (x20_23 : Value) w_22 => (PrU Try.prog (Instr.storeAt 28 x2_2 x20_23) w_22 fun w_24 => (QSub Try.prog (Instr.loadAt 28 x2_2) w_24 .any fun (r_26 : Value) => K ((r_26 : Value), true) w_24))))) ∧ (x18_19 = false → (QAll Try.prog (do eqGuard .eql 9 (.tmp 8) (.const (.string (⟨#[115, 101, 118, 101, 110, 116, 101, 101, 110]⟩))) (.string name0) (.string (⟨#[115, 101, 118, 101, 110, 116, 101, 101, 110]⟩)); binOp .eql 9 (.string name0) (.string (⟨#[115, 101, 118, 101, 110, 116, 101, 101, 110]⟩))) .bool fun (x22_27 : Bool) => ((x22_27 = true → (Pr Try.prog (Instr.buildSlice 25 8 #[(0, (.int .i64 (1 : Int))), (1, (.int .i64 (2 : Int))), (2, (.int .i64 (4 : Int))), (3, (.int .i64 (8 : Int))), (4, (.int .i64 (9 : Int))), (5, (.int .i64 (13 : Int))), (6, (.int .i64 (15 : Int))), (7, (.int .i64 (16 : Int)))]) w_1 (.one .any) fun (x23_29 : Value) w_28 => (Fc Try.prog 113 #[(.int .i64 (17 : Int)), x23_29] w_28 (.one .any) fun (x24_31 : Value) w_30 => (PrU Try.prog (Instr.storeAt 28 x2_2 x24_31) w_30 fun w_32 => (QSub Try.prog (Instr.loadAt 28 x2_2) w_32 .any fun (r_34 : Value) => K ((r_34 : Value), true) w_32))))) ∧ (x22_27 = false → (QAll Try.prog (do eqGuard .eql 9 (.tmp 8) (.const (.string (⟨#[115, 105, 120, 116, 101, 101, 110]⟩))) (.string name0) (.string (⟨#[115, 105, 120, 116, 101, 101, 110]⟩)); binOp .eql 9 (.string name0) (.string (⟨#[115, 105, 120, 116, 101, 101, 110]⟩))) .bool fun (x26_35 : Bool) => ((x26_35 = true → (Pr Try.prog (Instr.buildSlice 96 16 #[(0, (.int .u8 (0 : Int))), (1, (.int .u8 (0 : Int))), (2, (.int .u8 (1 : Int))), (3, (.int .u8 (1 : Int))), (4, (.int .u8 (2 : Int))), (5, (.int .u8 (2 : Int))), (6, (.int .u8 (2 : Int))), (7, (.int .u8 (1 : Int))), (8, (.int .u8 (0 : Int))), (9, (.int .u8 (2 : Int))), (10, (.int .u8 (0 : Int))), (11, (.int .u8 (1 : Int))), (12, (.int .u8 (0 : Int))), (13, (.int .u8 (1 : Int))), (14, (.int .u8 (2 : Int))), (15, (.int .u8 (0 : Int)))]) w_1 (.one .any) fun (x27_37 : Value) w_36 => (Pr Try.prog (Instr.build 28 #[(0, (.int .i64 (16 : Int))), (1, (.int .i64 (3 : Int)))]) w_36 (.one .any) fun (x28_39 : Value) w_38 => (Pr Try.prog (Instr.alloc 28 true (.tuple #[])) w_38 (.one .any) fun (out5_41 : Value) w_40 => (PrU Try.prog (Instr.storeAt 28 out5_41 x28_39) w_40 fun w_42 => (At (loopAt Try.f77 14) (loopAt Try.f77 14) (LOOP (U := (Value × Value × Value)) (S := Int) ((x2_2 : Value), (x27_37 : Value), (out5_41 : Value)) (fun N_66 s_67 w_68 => B_spec_l01Named_14 (x2_2 : Value) (x27_37 : Value) (out5_41 : Value) s_67 N_66 (fun (v_59 : (Value × Value × Unit)) w_60 => ∀ _j_61 : Nat → Value, (QSub Try.prog (Instr.loadAt 28 v_59.2.1) w_60 .any fun (x49_62 : Value) => (PrU Try.prog (Instr.storeAt 28 v_59.1 x49_62) w_60 fun w_63 => (QSub Try.prog (Instr.loadAt 28 v_59.1) w_63 .any fun (r_65 : Value) => K ((r_65 : Value), true) w_63)))) w_68) (1 : Int) w_42))))))) ∧ (x26_35 = false → (Pr Try.prog (Instr.build 28 #[]) w_1 (.one .any) fun (x50_70 : Value) w_69 => (PrU Try.prog (Instr.storeAt 28 x2_2 x50_70) w_69 fun w_71 => (QSub Try.prog (Instr.loadAt 28 x2_2) w_71 .any fun (r_73 : Value) => K ((r_73 : Value), false) w_71)))))))))))))))))))

theorem eq_spec_l01Named (name0 : ByteArray) (w : World) (K : (Value × Bool) → World → Prop) :
    W Try.prog ty O_spec_l01Named_2 (bodyOf Try.f77) (fnPost Try.prog Try.f77.results.toList (.two .any .bool) K) (frame0 [(.string name0)] 51) w = V_spec_l01Named name0 w K := by
  kernel_rfl

theorem body_spec_l01Named : Try.f77.body = some (bodyOf Try.f77) := by kernel_rfl
theorem name_spec_l01Named : (Try.f77.name == "runtime.NumGoroutine") = false := by kernel_rfl

theorem walk_spec_l01Named (name0 : ByteArray) {w : World} {K : (Value × Bool) → World → Prop} (h : V_spec_l01Named name0 w K) : Fc Try.prog 77 #[(.string name0)] w (.two .any .bool) K :=
  fn_ok follows O_spec_l01Named_2_ok Try.func77 name_spec_l01Named body_spec_l01Named Try.ntmps77 [(.string name0)] (Eq.mpr (eq_spec_l01Named name0 w K) h)

-- uses S9Nam
theorem c_spec_l01Named {s : ByteArray} {w : World} {K : Value × Bool → World → Prop} (hK : ∀ w', Below w.heap.size w w' → K ((namedC s).1.val, (namedC s).2) w') :
    Fc Try.prog F_spec_l01Named #[.string s] w (.two .any .bool) K := by
  unfold namedC at hK
  refine walk_spec_l01Named _ (c_alloc fun r w1 q1 hv => ?_)
  have hs1 := q1.size
  have circ : ∀ {n : Int} {l l' : List Int}, (n, l, l') ∈ [((5 : Int), [(1 : Int)], [(1 : Int), 4]), (8, [1, 4], [1, 4, 7]), (13, [1, 5], [1, 5, 8, 12]), (17, [1, 2, 4, 8], [1, 2, 4, 8, 9, 13, 15, 16])] → 1 ≤ n → n ≤ 17 → (∀ w', Below w.heap.size w w' → K ((colG n 2 (diffG l n)).val, true) w') →
      ∀ v w2, Below w1.heap.size w1 w2 → SlI w2 v l' → Fc Try.prog F_spec_l01Circle #[.int .i64 n, v] w2 (.one .any) fun x w6 => PrU Try.prog (Instr.storeAt tC r x) w6 fun w8 => QSub Try.prog (Instr.loadAt tC r) w8 .any fun y => K (y, true) w8 := fun {n l l'} hm n0 n1 hk v w2 q2 h2 => by
    refine c_spec_l01Circle n0 n1 h2 fun w3 q3 => ?_
    rw [ci_col hm (by omega) n1]
    have hs2 := q2.size; have hs3 := q3.size
    exact c_ret (K := fun y w' => K (y, true) w') (diff_ok _ (by omega) n1) ((hv.keep q2).keep q3) (by omega) fun w4 q4 => hk w4 ((q1.trans ((q2.trans (q3.mono hs2)).mono hs1)).trans q4)
  refine eqStr ⟨fun h => ?_, fun h => eqStr ⟨fun h2 => ?_, fun h2 => eqStr ⟨fun h3 => ?_, fun h3 => eqStr ⟨fun h4 => ?_, fun h4 => eqStr ⟨fun h5 => ?_, fun h5 => ?_⟩⟩⟩⟩⟩
  · rw [if_pos h] at hK
    exact litI' [1, 4] rfl rfl (by omega) fun v w2 q2 h2 => circ (by decide) (by omega) (by omega) hK v w2 q2 h2
  · rw [if_neg (ff h), if_pos h2] at hK
    exact litI' [1, 4, 7] rfl rfl (by omega) fun v w2 q2 h2 => circ (by decide) (by omega) (by omega) hK v w2 q2 h2
  · rw [if_neg (ff h), if_neg (ff h2), if_pos h3] at hK
    exact litI' [1, 5, 8, 12] rfl rfl (by omega) fun v w2 q2 h2 => circ (by decide) (by omega) (by omega) hK v w2 q2 h2
  · rw [if_neg (ff h), if_neg (ff h2), if_neg (ff h3), if_pos h4] at hK
    exact litI' [1, 2, 4, 8, 9, 13, 15, 16] rfl rfl (by omega) fun v w2 q2 h2 => circ (by decide) (by omega) (by omega) hK v w2 q2 h2
  · rw [if_neg (ff h), if_neg (ff h2), if_neg (ff h3), if_neg (ff h4), if_pos h5] at hK
    refine litB' kindsL rfl rfl (by omega) fun v w2 q2 h2 => ?_
    have hs2 := q2.size
    refine tri_fromM (w := w) sixG (q1.trans (q2.mono hs1)) (hv.keep q2) fun b w3 hbb q23 ht => ?_
    have hz := q1.trans (q2.mono hs1)
    have hkin : ∀ w', Below w2.heap.size w2 w' → Sl w' v 1 (kindsL.map (Value.int .u8)) := fun w' q => h2.keep q
    refine lp (fun j w' => 1 ≤ j ∧ j ≤ 16 ∧ Tri w w' (r) b 16 3 sixG (edgesOf j) ∧ Below w2.heap.size w2 w') (fun j _ => (16 - j).toNat) ⟨by omega, by omega, ht, q23⟩ ?_
    rintro j w4 N ⟨j0, j1, h4', hk4⟩ hN
    unfold B_spec_l01Named_14
    refine ⟨fun hlt => ?_, fun hge => ?_⟩
    · have hlt := dec_t hlt
      refine lp (fun i w' => 0 ≤ i ∧ i ≤ j ∧ Tri w w' r b 16 3 sixG (edgesOf j + i) ∧ Below w2.heap.size w2 w') (fun i _ => (j - i).toNat) ⟨by omega, by omega, by rw [Int.add_zero]; exact h4', hk4⟩ ?_
      rintro i w5 N' ⟨i0, i1, h5', hk5⟩ hN'
      unfold B_spec_l01Named_17
      refine ⟨fun hlt2 => ?_, fun hge2 => ?_⟩
      · have hlt2 := dec_t hlt2
        intro w6 hd
        have b56 := hd.below w5.heap.size
        have h6 := h5'.keep b56
        have hx := xr_bd (d := 4) i0 hlt2 (by omega)
        rw [wxor i0 (by omega) (by omega) (by omega)]
        have b26 : Below w2.heap.size w2 w6 := hk5.trans (hd.below _)
        refine atB (hkin w6 b26) (by omega) (by show xr i j < 16; omega) (fldp f2 (c_spec_l01Edge i0 (by omega) (by omega) (by omega) ⟨Below.refl _ _, ?_⟩))
        rw [six_col i0 hlt2 (by omega)]
        refine h6.putM i0 hlt2 (by omega) fun w7 m7 s7 h7 => ?_
        rw [wrap_small (by omega) (by omega)]
        have := b26.size
        exact hN' _ _ ⟨by omega, by omega, h7, b26.trans (m7.below (by omega) (by simp; omega))⟩ (by omega)
      · have hge2 := dec_f hge2
        have : i = j := by omega
        subst this
        intro _
        show N _ (IntKind.i64.wrap (i + 1)) w5
        rw [wrap_small (by omega) (by omega)]
        exact hN _ _ ⟨by omega, by omega, by rw [edgesOf_succ]; exact h5', hk5⟩ (by omega)
    · have hge := dec_f hge
      have : j = 16 := by omega
      subst this
      intro _
      exact tri_end (K := fun y w' => K (y, true) w') six_ok h4' hK
  · rw [if_neg (ff h), if_neg (ff h2), if_neg (ff h3), if_neg (ff h4), if_neg (ff h5)] at hK
    exact c_none (K := fun y w' => K (y, false) w') hv hs1 fun w2 q2 => hK w2 (q1.trans q2)

end Go.Proofs.Ytdkodhonaoecnaa
