/- The reading of impl_newTracer, and its contract. No condition. -/
import Derived.Test.YtkadckhealbdaaaTy
import Derived.Test.YtkadckhealbdaaaS9IsoM
import Derived.Test.YtkadckhealbdaaaFimplUColouringUdegreesAt
import Derived.Test.YtkadckhealbdaaaFslicesUEqualUint64Uint64
namespace Go.Proofs.Ytkadckhealbdaaa
open Go Go.RowKit Eng Mem
set_option linter.unusedVariables false
set_option maxRecDepth 100000
def B_impl_newTracer_8 (x0 : Value) (y1 : Value) (t7 : Value) (i8 : Int) (x38 : Int) (x39 : Int) (x45 : Int) (x46 : Int) (N : (Value × Value × Value × Int × Int × Int × Int) → Int → World → Prop) (D2 : (Value × Value × Value × Int × Int × Unit) → World → Prop) (w : World) : Prop :=
  (((decide (x46 < x45)) = true → (∀ w_18, Drew w w_18 → (NilOk t7 ∧ (QAll Try.prog (Instr.fieldAt 123 t7 3) .any fun (x60_19 : Value) => (QAll Try.prog (Instr.indexAt 121 x60_19 (.int .i64 i8)) .any fun (x61_20 : Value) => (Fc Try.prog 134 #[x0, (.int .i64 i8)] w_18 (.one .any) fun (x54_22 : Value) w_21 => (Fc Try.prog 134 #[y1, (.int .i64 x46)] w_21 (.one .any) fun (x57_24 : Value) w_23 => (Fc Try.prog 133 #[x54_22, x57_24] w_23 (.one .bool) fun (x58_26 : Bool) w_25 => (QAll Try.prog (Instr.indexAt 120 x61_20 (.int .i64 x46)) .any fun (x62_27 : Value) => (PrU Try.prog (Instr.storeAt 4 x62_27 (.bool x58_26)) w_25 fun w_28 => N ((x0 : Value), (y1 : Value), (t7 : Value), i8, x38, x39, x45) (IntKind.i64.wrap (x46 + (1 : Int))) w_28)))))))))) ∧ ((decide (x46 < x45)) = false → D2 ((x0 : Value), (y1 : Value), (t7 : Value), x38, x39, ()) w))

abbrev L_impl_newTracer_8_e2 : List Slot := [.k .any, .k .any, .junk, .junk, .junk, .junk, .junk, .k .any, .junk, .junk, .junk, .junk, .junk, .junk, .junk, .junk, .junk, .junk, .junk, .junk, .junk, .junk, .junk, .junk, .junk, .junk, .junk, .junk, .junk, .junk, .junk, .junk, .junk, .junk, .junk, .junk, .junk, .junk, .k (.int .i64), .k (.int .i64), .junk, .junk, .junk, .junk, .junk, .junk, .junk, .junk, .junk, .junk, .junk, .junk, .junk, .junk, .junk, .junk, .junk, .junk, .junk, .junk, .junk, .junk, .junk, .junk, .junk, .junk]

abbrev L_impl_newTracer_8_sp : List Slot := [.k .any, .k .any, .junk, .junk, .junk, .junk, .junk, .k .any, .k (.int .i64), .junk, .junk, .junk, .junk, .junk, .junk, .junk, .junk, .junk, .junk, .junk, .junk, .junk, .junk, .junk, .junk, .junk, .junk, .junk, .junk, .junk, .junk, .junk, .junk, .junk, .junk, .junk, .junk, .junk, .k (.int .i64), .k (.int .i64), .junk, .junk, .junk, .junk, .junk, .k (.int .i64), .k (.int .i64), .junk, .junk, .junk, .junk, .junk, .junk, .junk, .junk, .junk, .junk, .junk, .junk, .junk, .junk, .junk, .junk, .junk, .junk, .junk]
abbrev L_impl_newTracer_8_ex : List (Nat × List Slot) := [(2, L_impl_newTracer_8_e2)]
abbrev L_impl_newTracer_8_rt : List Slot := [.junk, .junk, .junk, .junk, .junk, .junk, .junk, .junk, .junk, .junk, .junk, .junk, .junk, .junk, .junk, .junk, .junk, .junk, .junk, .junk, .junk, .junk, .junk, .junk, .junk, .junk, .junk, .junk, .junk, .junk, .junk, .junk, .junk, .junk, .junk, .junk, .junk, .junk, .junk, .junk, .junk, .junk, .junk, .junk, .junk, .junk, .junk, .junk, .junk, .junk, .junk, .junk, .junk, .junk, .junk, .junk, .junk, .junk, .junk, .junk, .junk, .junk, .junk, .junk, .junk, .junk]

def L_impl_newTracer_8_b (Φ : Post) (u : (Value × Value × Value × Int × Int × Int × Int)) (N : (Value × Value × Value × Int × Int × Int × Int) → Int → World → Prop) (s : Int) (w : World) : Prop :=
  B_impl_newTracer_8 u.1 u.2.1 u.2.2.1 u.2.2.2.1 u.2.2.2.2.1 u.2.2.2.2.2.1 u.2.2.2.2.2.2 s N (fun v w => ∀ j : Nat → Value, Φ (.exit 2) (mkT j 0 L_impl_newTracer_8_e2 v) w) w

theorem L_impl_newTracer_8_eq (j : Nat → Value) (u : (Value × Value × Value × Int × Int × Int × Int)) (s : Int) (N : (Value × Value × Value × Int × Int × Int × Int) → Int → World → Prop) (D2 : (Value × Value × Value × Int × Int × Unit) → World → Prop) (R : (Unit) → World → Prop) (w : World) :
    W Try.prog ty (fun _ _ _ _ => False) (loopAt Try.f119 8) (loopPost L_impl_newTracer_8_sp [(2, (⟨L_impl_newTracer_8_e2, D2⟩ : Door))] ⟨L_impl_newTracer_8_rt, R⟩ (fun v w => N ((fun v => (v.1, v.2.1, v.2.2.1, v.2.2.2.1, v.2.2.2.2.1, v.2.2.2.2.2.1, v.2.2.2.2.2.2.1)) v) ((fun v => v.2.2.2.2.2.2.2.1) v) w)) (mkT j 0 L_impl_newTracer_8_sp ((fun u s => (u.1, u.2.1, u.2.2.1, u.2.2.2.1, u.2.2.2.2.1, u.2.2.2.2.2.1, u.2.2.2.2.2.2, s, ())) u s)) w =
    B_impl_newTracer_8 u.1 u.2.1 u.2.2.1 u.2.2.2.1 u.2.2.2.2.1 u.2.2.2.2.2.1 u.2.2.2.2.2.2 s N D2 w := by
  kernel_rfl

def O_impl_newTracer_1 : Code → Post → List SV → World → Prop :=
  orc 8 (loopAt Try.f119 8) L_impl_newTracer_8_sp (fun Φ fr w => LOOP (U := (Value × Value × Value × Int × Int × Int × Int)) (S := Int) ((fun v => (v.1, v.2.1, v.2.2.1, v.2.2.2.1, v.2.2.2.2.1, v.2.2.2.2.2.1, v.2.2.2.2.2.2.1)) (extT L_impl_newTracer_8_sp fr)) (L_impl_newTracer_8_b Φ ((fun v => (v.1, v.2.1, v.2.2.1, v.2.2.2.1, v.2.2.2.2.1, v.2.2.2.2.2.1, v.2.2.2.2.2.2.1)) (extT L_impl_newTracer_8_sp fr))) ((fun v => v.2.2.2.2.2.2.2.1) (extT L_impl_newTracer_8_sp fr)) w) (fun _ _ _ _ => False)

theorem O_impl_newTracer_1_ok : Sound Try.prog O_impl_newTracer_1 :=
  orc_ok (sound_none _) fun Φ fr w hs h => loop_ok (ty := ty) follows (sound_none _) L_impl_newTracer_8_sp (fun v => (v.1, v.2.1, v.2.2.1, v.2.2.2.1, v.2.2.2.2.1, v.2.2.2.2.2.1, v.2.2.2.2.2.2.1)) (fun v => v.2.2.2.2.2.2.2.1) (fun u s => (u.1, u.2.1, u.2.2.1, u.2.2.2.1, u.2.2.2.2.1, u.2.2.2.2.2.1, u.2.2.2.2.2.2, s, ())) (fun _ => rfl) L_impl_newTracer_8_ex L_impl_newTracer_8_rt (body := L_impl_newTracer_8_b Φ) (fun j u s w N hb => by
    have e := L_impl_newTracer_8_eq j u s N (doorOf Φ (.exit 2) L_impl_newTracer_8_e2).D (doorOf Φ .ret L_impl_newTracer_8_rt).D w
    exact Eq.mpr e hb) hs h

def B_impl_newTracer_5 (x0 : Value) (y1 : Value) (t7 : Value) (x38 : Int) (x39 : Int) (N : (Value × Value × Value × Int) → Int → World → Prop) (D0 : (Value × Unit) → World → Prop) (w : World) : Prop :=
  (((decide (x39 < x38)) = true → (NilOk y1 ∧ (QAll Try.prog (Instr.fieldAt 25 y1 0) .any fun (x44_16 : Value) => (QSub Try.prog (Instr.loadAt 2 x44_16) w (.int .i64) fun (x45_17 : Int) => (At (loopAt Try.f119 8) (loopAt Try.f119 8) (LOOP (U := (Value × Value × Value × Int × Int × Int × Int)) (S := Int) ((x0 : Value), (y1 : Value), (t7 : Value), x39, x38, x39, x45_17) (fun N_33 s_34 w_35 => B_impl_newTracer_8 (x0 : Value) (y1 : Value) (t7 : Value) x39 x38 x39 x45_17 s_34 N_33 (fun (v_30 : (Value × Value × Value × Int × Int × Unit)) w_31 => ∀ _j_32 : Nat → Value, N ((v_30.1 : Value), (v_30.2.1 : Value), (v_30.2.2.1 : Value), v_30.2.2.2.1) (IntKind.i64.wrap (v_30.2.2.2.2.1 + (1 : Int))) w_31) w_35) (0 : Int) w)))))) ∧ ((decide (x39 < x38)) = false → D0 ((t7 : Value), ()) w))

abbrev L_impl_newTracer_5_e0 : List Slot := [.junk, .junk, .junk, .junk, .junk, .junk, .junk, .k .any, .junk, .junk, .junk, .junk, .junk, .junk, .junk, .junk, .junk, .junk, .junk, .junk, .junk, .junk, .junk, .junk, .junk, .junk, .junk, .junk, .junk, .junk, .junk, .junk, .junk, .junk, .junk, .junk, .junk, .junk, .junk, .junk, .junk, .junk, .junk, .junk, .junk, .junk, .junk, .junk, .junk, .junk, .junk, .junk, .junk, .junk, .junk, .junk, .junk, .junk, .junk, .junk, .junk, .junk, .junk, .junk, .junk, .junk]

abbrev L_impl_newTracer_5_sp : List Slot := [.k .any, .k .any, .junk, .junk, .junk, .junk, .junk, .k .any, .junk, .junk, .junk, .junk, .junk, .junk, .junk, .junk, .junk, .junk, .junk, .junk, .junk, .junk, .junk, .junk, .junk, .junk, .junk, .junk, .junk, .junk, .junk, .junk, .junk, .junk, .junk, .junk, .junk, .junk, .k (.int .i64), .k (.int .i64), .junk, .junk, .junk, .junk, .junk, .junk, .junk, .junk, .junk, .junk, .junk, .junk, .junk, .junk, .junk, .junk, .junk, .junk, .junk, .junk, .junk, .junk, .junk, .junk, .junk, .junk]
abbrev L_impl_newTracer_5_ex : List (Nat × List Slot) := [(0, L_impl_newTracer_5_e0)]
abbrev L_impl_newTracer_5_rt : List Slot := [.junk, .junk, .junk, .junk, .junk, .junk, .junk, .junk, .junk, .junk, .junk, .junk, .junk, .junk, .junk, .junk, .junk, .junk, .junk, .junk, .junk, .junk, .junk, .junk, .junk, .junk, .junk, .junk, .junk, .junk, .junk, .junk, .junk, .junk, .junk, .junk, .junk, .junk, .junk, .junk, .junk, .junk, .junk, .junk, .junk, .junk, .junk, .junk, .junk, .junk, .junk, .junk, .junk, .junk, .junk, .junk, .junk, .junk, .junk, .junk, .junk, .junk, .junk, .junk, .junk, .junk]

def L_impl_newTracer_5_b (Φ : Post) (u : (Value × Value × Value × Int)) (N : (Value × Value × Value × Int) → Int → World → Prop) (s : Int) (w : World) : Prop :=
  B_impl_newTracer_5 u.1 u.2.1 u.2.2.1 u.2.2.2 s N (fun v w => ∀ j : Nat → Value, Φ (.exit 0) (mkT j 0 L_impl_newTracer_5_e0 v) w) w

theorem L_impl_newTracer_5_eq (j : Nat → Value) (u : (Value × Value × Value × Int)) (s : Int) (N : (Value × Value × Value × Int) → Int → World → Prop) (D0 : (Value × Unit) → World → Prop) (R : (Unit) → World → Prop) (w : World) :
    W Try.prog ty O_impl_newTracer_1 (loopAt Try.f119 5) (loopPost L_impl_newTracer_5_sp [(0, (⟨L_impl_newTracer_5_e0, D0⟩ : Door))] ⟨L_impl_newTracer_5_rt, R⟩ (fun v w => N ((fun v => (v.1, v.2.1, v.2.2.1, v.2.2.2.1)) v) ((fun v => v.2.2.2.2.1) v) w)) (mkT j 0 L_impl_newTracer_5_sp ((fun u s => (u.1, u.2.1, u.2.2.1, u.2.2.2, s, ())) u s)) w =
    B_impl_newTracer_5 u.1 u.2.1 u.2.2.1 u.2.2.2 s N D0 w := by
  kernel_rfl

def O_impl_newTracer_2 : Code → Post → List SV → World → Prop :=
  orc 5 (loopAt Try.f119 5) L_impl_newTracer_5_sp (fun Φ fr w => LOOP (U := (Value × Value × Value × Int)) (S := Int) ((fun v => (v.1, v.2.1, v.2.2.1, v.2.2.2.1)) (extT L_impl_newTracer_5_sp fr)) (L_impl_newTracer_5_b Φ ((fun v => (v.1, v.2.1, v.2.2.1, v.2.2.2.1)) (extT L_impl_newTracer_5_sp fr))) ((fun v => v.2.2.2.2.1) (extT L_impl_newTracer_5_sp fr)) w) O_impl_newTracer_1

theorem O_impl_newTracer_2_ok : Sound Try.prog O_impl_newTracer_2 :=
  orc_ok O_impl_newTracer_1_ok fun Φ fr w hs h => loop_ok (ty := ty) follows O_impl_newTracer_1_ok L_impl_newTracer_5_sp (fun v => (v.1, v.2.1, v.2.2.1, v.2.2.2.1)) (fun v => v.2.2.2.2.1) (fun u s => (u.1, u.2.1, u.2.2.1, u.2.2.2, s, ())) (fun _ => rfl) L_impl_newTracer_5_ex L_impl_newTracer_5_rt (body := L_impl_newTracer_5_b Φ) (fun j u s w N hb => by
    have e := L_impl_newTracer_5_eq j u s N (doorOf Φ (.exit 0) L_impl_newTracer_5_e0).D (doorOf Φ .ret L_impl_newTracer_5_rt).D w
    exact Eq.mpr e hb) hs h

def V_impl_newTracer (x0 : Value) (y1 : Value) (order2 : Value) (w : World) (K : Value → World → Prop) : Prop :=
  (∀ w_1, Drew w w_1 → (NilOk x0 ∧ (QAll Try.prog (Instr.fieldAt 25 x0 0) .any fun (x12_2 : Value) => (QSub Try.prog (Instr.loadAt 2 x12_2) w_1 (.int .i64) fun (x13_3 : Int) => (NilOk y1 ∧ (QAll Try.prog (Instr.fieldAt 25 y1 0) .any fun (x16_4 : Value) => (QSub Try.prog (Instr.loadAt 2 x16_4) w_1 (.int .i64) fun (x17_5 : Int) => (((x13_3 != x17_5) = true → K ((.pointer none) : Value) w_1) ∧ ((x13_3 != x17_5) = false → (NilOk x0 ∧ (QAll Try.prog (Instr.fieldAt 25 x0 1) .any fun (x22_6 : Value) => (QSub Try.prog (Instr.loadAt 2 x22_6) w_1 (.int .i64) fun (x23_7 : Int) => (NilOk y1 ∧ (QAll Try.prog (Instr.fieldAt 25 y1 1) .any fun (x26_8 : Value) => (QSub Try.prog (Instr.loadAt 2 x26_8) w_1 (.int .i64) fun (x27_9 : Int) => (((x23_7 != x27_9) = true → K ((.pointer none) : Value) w_1) ∧ ((x23_7 != x27_9) = false → (Pr Try.prog (Instr.build 123 #[(0, x0), (1, y1), (2, order2)]) w_1 (.one .any) fun (x33_11 : Value) w_10 => (Pr Try.prog (Instr.box 123 x33_11) w_10 (.one .any) fun (x34_13 : Value) w_12 => (NilOk x0 ∧ (QAll Try.prog (Instr.fieldAt 25 x0 0) .any fun (x37_14 : Value) => (QSub Try.prog (Instr.loadAt 2 x37_14) w_12 (.int .i64) fun (x38_15 : Int) => (At (loopAt Try.f119 5) (loopAt Try.f119 5) (LOOP (U := (Value × Value × Value × Int)) (S := Int) ((x0 : Value), (y1 : Value), (x34_13 : Value), x38_15) (fun N_39 s_40 w_41 => B_impl_newTracer_5 (x0 : Value) (y1 : Value) (x34_13 : Value) x38_15 s_40 N_39 (fun (v_36 : (Value × Unit)) w_37 => ∀ _j_38 : Nat → Value, K (v_36.1 : Value) w_37) w_41) (0 : Int) w_12))))))))))))))))))))))))

theorem eq_impl_newTracer (x0 : Value) (y1 : Value) (order2 : Value) (w : World) (K : Value → World → Prop) :
    W Try.prog ty O_impl_newTracer_2 (bodyOf Try.f119) (fnPost Try.prog Try.f119.results.toList (.one .any) K) (frame0 [x0, y1, order2] 66) w = V_impl_newTracer x0 y1 order2 w K := by
  kernel_rfl

theorem body_impl_newTracer : Try.f119.body = some (bodyOf Try.f119) := by kernel_rfl
theorem name_impl_newTracer : (Try.f119.name == "runtime.NumGoroutine") = false := by kernel_rfl

theorem walk_impl_newTracer (x0 : Value) (y1 : Value) (order2 : Value) {w : World} {K : Value → World → Prop} (h : V_impl_newTracer x0 y1 order2 w K) : Fc Try.prog 119 #[x0, y1, order2] w (.one .any) K :=
  fn_ok follows O_impl_newTracer_2_ok Try.func119 name_impl_newTracer body_impl_newTracer Try.ntmps119 [x0, y1, order2] (Eq.mpr (eq_impl_newTracer x0 y1 order2 w K) h)

-- uses S9IsoM
theorem c_impl_newTracer {px py po : Value} {x y : Col} {ord : List Int} {w : World} {K : Value → World → Prop} (hx : x.Ok) (hy : y.Ok) (Ix : x.Is) (Iy : y.Is) (ax : ColAt w px x) (ay : ColAt w py y) (ho : SlI w po ord)
    (hno : ¬ (x.n = y.n ∧ x.k = y.k) → ∀ w', Below w.heap.size w w' → K (.pointer none) w')
    (hyes : x.n = y.n → x.k = y.k → ∀ w' b S, w.heap.size ≤ b → Below w.heap.size w w' → Blk w' b (trV px py po S) tTr → (∀ i j : Nat, i < x.n.toNat → j < x.n.toNat → S i j = sameD x y i j) → K (ptr b 0) w') :
    Fc Try.prog F_impl_newTracer #[px, py, po] w (.one .any) K := by
  have n0 := Ix.1; have n1 := Ix.2.1; have k0 := Ix.2.2.1; have k4 := Ix.2.2.2.1
  refine walk_impl_newTracer _ _ _ ?_
  intro w1 hd
  have q1 := hd.below w.heap.size
  have ax1 := ax.keep q1
  have ay1 := ay.keep q1
  refine ⟨ax.nonnil, col_n ax1 ⟨ay.nonnil, col_n ay1 ⟨fun hne => hno (fun h => ne_t hne h.1) w1 q1, fun hn => ⟨ax.nonnil, col_k ax1 ⟨ay.nonnil, col_k ay1 ⟨fun hne => hno (fun h => ne_t hne h.2) w1 q1, fun hk => ?_⟩⟩⟩⟩⟩⟩
  have hn := ne_f hn; have hk := ne_f hk
  obtain ⟨px', rfl⟩ := ax.isPtr
  obtain ⟨py', rfl⟩ := ay.isPtr
  obtain ⟨po', ln, cp, rfl, _⟩ := ho.sl
  refine ⟨_, w1, buildTr px' py' po' ln cp w1, box _ rfl fun b w2 m2 => ⟨ax.nonnil, col_n (ax1.keep m2.below) ?_⟩⟩
  have e2 := m2.here; have s2 := m2.size; have hs1 := q1.size
  have q2 := q1.trans (m2.below.mono hs1)
  refine lp (fun s w' => Below w.heap.size w w' ∧ ∃ (i : Nat) (S : Nat → Nat → Bool), s = i ∧ i ≤ x.n.toNat ∧ Blk w' b (trV (.pointer (some px')) (.pointer (some py')) (.slice po' ln cp) S) tTr ∧ ∀ a c : Nat, a < i → c < x.n.toNat → S a c = sameD x y a c) (fun s _ => (17 - s).toNat)
    ⟨q2, 0, _, rfl, by omega, m2.at_, fun a c h => absurd h (by omega)⟩ ?_
  rintro t w3 N ⟨q3, i, S, hi, hin, h3, hS⟩ hN
  subst hi
  unfold B_impl_newTracer_5
  refine ⟨fun hlt => ⟨ay.nonnil, col_n (ay.keep q3) ?_⟩, fun hge => ?_⟩
  · have hlt := dec_t hlt
    refine lp (fun s w' => Below w.heap.size w w' ∧ ∃ (j : Nat) (S : Nat → Nat → Bool), s = j ∧ j ≤ x.n.toNat ∧ Blk w' b (trV (.pointer (some px')) (.pointer (some py')) (.slice po' ln cp) S) tTr ∧ ∀ a c : Nat, (a < i ∨ a = i ∧ c < j) → c < x.n.toNat → S a c = sameD x y a c) (fun s _ => (17 - s).toNat)
      ⟨q3, 0, S, rfl, by omega, h3, fun a c h hc => hS a c (by omega) hc⟩ ?_
    rintro t w4 N' ⟨q4, j, S, hj, hjn, h4, hS⟩ hN'
    subst hj
    unfold B_impl_newTracer_8
    refine ⟨fun hlt2 => ?_, fun hge2 => ?_⟩
    · have hlt2 := dec_t hlt2
      intro w5 hd5
      have b45 := hd5.below w4.heap.size
      have q5 := q4.trans (hd5.below w.heap.size)
      refine ⟨.inl ⟨_, rfl⟩, fldp tr3 (ixRq yR289 (by omega) (by omega) (c_impl_Colouring_degreesAt hx Ix (ax.keep q5) (by omega) (by omega) fun u w6 b6 hb6 q6 o6 => ?_))⟩
      have q56 := q5.trans (q6.mono q5.size)
      refine c_impl_Colouring_degreesAt hy Iy (ay.keep q56) (by omega) (by omega) fun u' w7 b7 hb7 q7 o7 => ?_
      have q57 := q56.trans (q7.mono q56.size)
      have l6 := degK_len x i x.n.toNat
      have l7 := degK_len y j y.n.toNat
      have ky := Iy.2.2.2.1
      refine c_slices_Equal_int64_int64 (own_slI (o6.keep q7) (by omega)) (own_slI o7 (by omega)) fun w8 q8 => ?_
      have q58 := q57.trans (q8.mono q57.size)
      rw [sameD_eq hk]
      have b48 : Below w4.heap.size w4 w8 := ((b45.trans (q6.mono b45.size)).trans (q7.mono (by have := b45.size; have := q6.size; omega))).trans (q8.mono (by have := b45.size; have := q6.size; have := q7.size; omega))
      have h8 : Blk w8 b (trV (.pointer (some px')) (.pointer (some py')) (.slice po' ln cp) S) tTr := below_at b48 h4 (at_lt h4)
      refine ixRp yR17 (by omega) (by omega) (st yb h8 (by rw [trV_len, Int.toNat_natCast, Int.toNat_natCast]; omega) rfl fun w9 m9 s9 h9 => ?_)
      rw [Int.toNat_natCast, Int.toNat_natCast, Nat.zero_add, trV_set _ _ _ _ _ (by omega) (by omega)] at h9
      rw [wrap_small (by omega) (by omega)]
      have hz := q58.size
      refine hN' _ _ ⟨q58.trans (m9.below (by omega) (by simp; omega)), j + 1, _, by omega, by omega, h9, fun a c hac hc => ?_⟩ (by omega)
      by_cases he : a = i ∧ c = j
      · rw [if_pos he, he.1, he.2]
      · rw [if_neg he]; exact hS a c (by omega) hc
    · have hge2 := dec_f hge2
      intro _
      try dsimp only
      rw [wrap_small (by omega) (by omega)]
      exact hN _ _ ⟨q4, i + 1, S, by omega, by omega, h4, fun a c ha hc => hS a c (by omega) hc⟩ (by omega)
  · have hge := dec_f hge
    have : i = x.n.toNat := by omega
    subst this
    intro _
    exact hyes hn hk w3 b S (by omega) q3 h3 fun i j hi hj => hS i j hi hj

end Go.Proofs.Ytkadckhealbdaaa
