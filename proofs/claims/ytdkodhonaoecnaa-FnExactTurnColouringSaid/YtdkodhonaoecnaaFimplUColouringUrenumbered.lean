/- The reading of impl_Colouring_renumbered, and its contract. No condition. -/
import Derived.Test.YtdkodhonaoecnaaTy
import Derived.Test.YtdkodhonaoecnaaS8Ren
import Derived.Test.YtdkodhonaoecnaaFimplUColouringUat
import Derived.Test.YtdkodhonaoecnaaFimplUColouringUput
namespace Go.Proofs.Ytdkodhonaoecnaa
open Go Go.RowKit Eng Mem
set_option linter.unusedVariables false
set_option maxRecDepth 100000
def B_impl_Colouring_renumbered_6 (x0 : Value) (p1 : Value) (x4 : Value) (out5 : Value) (j6 : Int) (x20 : Int) (x21 : Int) (x24 : Int) (x25 : Int) (N : (Value × Value × Value × Value × Int × Int × Int × Int) → Int → World → Prop) (D2 : (Value × Value × Value × Value × Int × Int × Unit) → World → Prop) (w : World) : Prop :=
  (((decide (x25 < x24)) = true → (∀ w_16, Drew w w_16 → (QAll Try.prog (Instr.indexAt 25 p1 (.int .i64 x25)) .any fun (x30_17 : Value) => (QSub Try.prog (Instr.loadAt 2 x30_17) w_16 (.int .i64) fun (x31_18 : Int) => (QAll Try.prog (Instr.indexAt 25 p1 (.int .i64 j6)) .any fun (x34_19 : Value) => (QSub Try.prog (Instr.loadAt 2 x34_19) w_16 (.int .i64) fun (x35_20 : Int) => (Fc Try.prog 94 #[x0, (.int .i64 x25), (.int .i64 j6)] w_16 (.one (.int .i64)) fun (x39_22 : Int) w_21 => (Keeps w_16 w_21 ((Fc Try.prog 76 #[out5, (.int .i64 x31_18), (.int .i64 x35_20), (.int .i64 x39_22)] w_21 .unit fun (x40_24 : Unit) w_23 => N ((x0 : Value), (p1 : Value), (x4 : Value), (out5 : Value), j6, x20, x21, x24) (IntKind.i64.wrap (x25 + (1 : Int))) w_23)))))))))) ∧ ((decide (x25 < x24)) = false → D2 ((x0 : Value), (p1 : Value), (x4 : Value), (out5 : Value), x20, x21, ()) w))

abbrev L_impl_Colouring_renumbered_6_e2 : List Slot := [.k .any, .k .any, .junk, .junk, .k .any, .k .any, .junk, .junk, .junk, .junk, .junk, .junk, .junk, .junk, .junk, .junk, .junk, .junk, .junk, .junk, .k (.int .i64), .k (.int .i64), .junk, .junk, .junk, .junk, .junk, .junk, .junk, .junk, .junk, .junk, .junk, .junk, .junk, .junk, .junk, .junk, .junk, .junk, .junk, .junk, .junk, .junk]

abbrev L_impl_Colouring_renumbered_6_sp : List Slot := [.k .any, .k .any, .junk, .junk, .k .any, .k .any, .k (.int .i64), .junk, .junk, .junk, .junk, .junk, .junk, .junk, .junk, .junk, .junk, .junk, .junk, .junk, .k (.int .i64), .k (.int .i64), .junk, .junk, .k (.int .i64), .k (.int .i64), .junk, .junk, .junk, .junk, .junk, .junk, .junk, .junk, .junk, .junk, .junk, .junk, .junk, .junk, .junk, .junk, .junk, .junk]
abbrev L_impl_Colouring_renumbered_6_ex : List (Nat × List Slot) := [(2, L_impl_Colouring_renumbered_6_e2)]
abbrev L_impl_Colouring_renumbered_6_rt : List Slot := [.junk, .junk, .junk, .junk, .junk, .junk, .junk, .junk, .junk, .junk, .junk, .junk, .junk, .junk, .junk, .junk, .junk, .junk, .junk, .junk, .junk, .junk, .junk, .junk, .junk, .junk, .junk, .junk, .junk, .junk, .junk, .junk, .junk, .junk, .junk, .junk, .junk, .junk, .junk, .junk, .junk, .junk, .junk, .junk]

def L_impl_Colouring_renumbered_6_b (Φ : Post) (u : (Value × Value × Value × Value × Int × Int × Int × Int)) (N : (Value × Value × Value × Value × Int × Int × Int × Int) → Int → World → Prop) (s : Int) (w : World) : Prop :=
  B_impl_Colouring_renumbered_6 u.1 u.2.1 u.2.2.1 u.2.2.2.1 u.2.2.2.2.1 u.2.2.2.2.2.1 u.2.2.2.2.2.2.1 u.2.2.2.2.2.2.2 s N (fun v w => ∀ j : Nat → Value, Φ (.exit 2) (mkT j 0 L_impl_Colouring_renumbered_6_e2 v) w) w

theorem L_impl_Colouring_renumbered_6_eq (j : Nat → Value) (u : (Value × Value × Value × Value × Int × Int × Int × Int)) (s : Int) (N : (Value × Value × Value × Value × Int × Int × Int × Int) → Int → World → Prop) (D2 : (Value × Value × Value × Value × Int × Int × Unit) → World → Prop) (R : (Unit) → World → Prop) (w : World) :
    W Try.prog ty (fun _ _ _ _ => False) (loopAt Try.f91 6) (loopPost L_impl_Colouring_renumbered_6_sp [(2, (⟨L_impl_Colouring_renumbered_6_e2, D2⟩ : Door))] ⟨L_impl_Colouring_renumbered_6_rt, R⟩ (fun v w => N ((fun v => (v.1, v.2.1, v.2.2.1, v.2.2.2.1, v.2.2.2.2.1, v.2.2.2.2.2.1, v.2.2.2.2.2.2.1, v.2.2.2.2.2.2.2.1)) v) ((fun v => v.2.2.2.2.2.2.2.2.1) v) w)) (mkT j 0 L_impl_Colouring_renumbered_6_sp ((fun u s => (u.1, u.2.1, u.2.2.1, u.2.2.2.1, u.2.2.2.2.1, u.2.2.2.2.2.1, u.2.2.2.2.2.2.1, u.2.2.2.2.2.2.2, s, ())) u s)) w =
    B_impl_Colouring_renumbered_6 u.1 u.2.1 u.2.2.1 u.2.2.2.1 u.2.2.2.2.1 u.2.2.2.2.2.1 u.2.2.2.2.2.2.1 u.2.2.2.2.2.2.2 s N D2 w := by
  kernel_rfl

def O_impl_Colouring_renumbered_1 : Code → Post → List SV → World → Prop :=
  orc 6 (loopAt Try.f91 6) L_impl_Colouring_renumbered_6_sp (fun Φ fr w => LOOP (U := (Value × Value × Value × Value × Int × Int × Int × Int)) (S := Int) ((fun v => (v.1, v.2.1, v.2.2.1, v.2.2.2.1, v.2.2.2.2.1, v.2.2.2.2.2.1, v.2.2.2.2.2.2.1, v.2.2.2.2.2.2.2.1)) (extT L_impl_Colouring_renumbered_6_sp fr)) (L_impl_Colouring_renumbered_6_b Φ ((fun v => (v.1, v.2.1, v.2.2.1, v.2.2.2.1, v.2.2.2.2.1, v.2.2.2.2.2.1, v.2.2.2.2.2.2.1, v.2.2.2.2.2.2.2.1)) (extT L_impl_Colouring_renumbered_6_sp fr))) ((fun v => v.2.2.2.2.2.2.2.2.1) (extT L_impl_Colouring_renumbered_6_sp fr)) w) (fun _ _ _ _ => False)

theorem O_impl_Colouring_renumbered_1_ok : Sound Try.prog O_impl_Colouring_renumbered_1 :=
  orc_ok (sound_none _) fun Φ fr w hs h => loop_ok (ty := ty) follows (sound_none _) L_impl_Colouring_renumbered_6_sp (fun v => (v.1, v.2.1, v.2.2.1, v.2.2.2.1, v.2.2.2.2.1, v.2.2.2.2.2.1, v.2.2.2.2.2.2.1, v.2.2.2.2.2.2.2.1)) (fun v => v.2.2.2.2.2.2.2.2.1) (fun u s => (u.1, u.2.1, u.2.2.1, u.2.2.2.1, u.2.2.2.2.1, u.2.2.2.2.2.1, u.2.2.2.2.2.2.1, u.2.2.2.2.2.2.2, s, ())) (fun _ => rfl) L_impl_Colouring_renumbered_6_ex L_impl_Colouring_renumbered_6_rt (body := L_impl_Colouring_renumbered_6_b Φ) (fun j u s w N hb => by
    have e := L_impl_Colouring_renumbered_6_eq j u s N (doorOf Φ (.exit 2) L_impl_Colouring_renumbered_6_e2).D (doorOf Φ .ret L_impl_Colouring_renumbered_6_rt).D w
    exact Eq.mpr e hb) hs h

def B_impl_Colouring_renumbered_3 (x0 : Value) (p1 : Value) (x4 : Value) (out5 : Value) (x20 : Int) (x21 : Int) (N : (Value × Value × Value × Value × Int) → Int → World → Prop) (D0 : (Value × Value × Unit) → World → Prop) (w : World) : Prop :=
  (((decide (x21 < x20)) = true → (At (loopAt Try.f91 6) (loopAt Try.f91 6) (LOOP (U := (Value × Value × Value × Value × Int × Int × Int × Int)) (S := Int) ((x0 : Value), (p1 : Value), (x4 : Value), (out5 : Value), x21, x20, x21, x21) (fun N_28 s_29 w_30 => B_impl_Colouring_renumbered_6 (x0 : Value) (p1 : Value) (x4 : Value) (out5 : Value) x21 x20 x21 x21 s_29 N_28 (fun (v_25 : (Value × Value × Value × Value × Int × Int × Unit)) w_26 => ∀ _j_27 : Nat → Value, N ((v_25.1 : Value), (v_25.2.1 : Value), (v_25.2.2.1 : Value), (v_25.2.2.2.1 : Value), v_25.2.2.2.2.1) (IntKind.i64.wrap (v_25.2.2.2.2.2.1 + (1 : Int))) w_26) w_30) (0 : Int) w))) ∧ ((decide (x21 < x20)) = false → D0 ((x4 : Value), (out5 : Value), ()) w))

abbrev L_impl_Colouring_renumbered_3_e0 : List Slot := [.junk, .junk, .junk, .junk, .k .any, .k .any, .junk, .junk, .junk, .junk, .junk, .junk, .junk, .junk, .junk, .junk, .junk, .junk, .junk, .junk, .junk, .junk, .junk, .junk, .junk, .junk, .junk, .junk, .junk, .junk, .junk, .junk, .junk, .junk, .junk, .junk, .junk, .junk, .junk, .junk, .junk, .junk, .junk, .junk]

abbrev L_impl_Colouring_renumbered_3_sp : List Slot := [.k .any, .k .any, .junk, .junk, .k .any, .k .any, .junk, .junk, .junk, .junk, .junk, .junk, .junk, .junk, .junk, .junk, .junk, .junk, .junk, .junk, .k (.int .i64), .k (.int .i64), .junk, .junk, .junk, .junk, .junk, .junk, .junk, .junk, .junk, .junk, .junk, .junk, .junk, .junk, .junk, .junk, .junk, .junk, .junk, .junk, .junk, .junk]
abbrev L_impl_Colouring_renumbered_3_ex : List (Nat × List Slot) := [(0, L_impl_Colouring_renumbered_3_e0)]
abbrev L_impl_Colouring_renumbered_3_rt : List Slot := [.junk, .junk, .junk, .junk, .junk, .junk, .junk, .junk, .junk, .junk, .junk, .junk, .junk, .junk, .junk, .junk, .junk, .junk, .junk, .junk, .junk, .junk, .junk, .junk, .junk, .junk, .junk, .junk, .junk, .junk, .junk, .junk, .junk, .junk, .junk, .junk, .junk, .junk, .junk, .junk, .junk, .junk, .junk, .junk]

def L_impl_Colouring_renumbered_3_b (Φ : Post) (u : (Value × Value × Value × Value × Int)) (N : (Value × Value × Value × Value × Int) → Int → World → Prop) (s : Int) (w : World) : Prop :=
  B_impl_Colouring_renumbered_3 u.1 u.2.1 u.2.2.1 u.2.2.2.1 u.2.2.2.2 s N (fun v w => ∀ j : Nat → Value, Φ (.exit 0) (mkT j 0 L_impl_Colouring_renumbered_3_e0 v) w) w

theorem L_impl_Colouring_renumbered_3_eq (j : Nat → Value) (u : (Value × Value × Value × Value × Int)) (s : Int) (N : (Value × Value × Value × Value × Int) → Int → World → Prop) (D0 : (Value × Value × Unit) → World → Prop) (R : (Unit) → World → Prop) (w : World) :
    W Try.prog ty O_impl_Colouring_renumbered_1 (loopAt Try.f91 3) (loopPost L_impl_Colouring_renumbered_3_sp [(0, (⟨L_impl_Colouring_renumbered_3_e0, D0⟩ : Door))] ⟨L_impl_Colouring_renumbered_3_rt, R⟩ (fun v w => N ((fun v => (v.1, v.2.1, v.2.2.1, v.2.2.2.1, v.2.2.2.2.1)) v) ((fun v => v.2.2.2.2.2.1) v) w)) (mkT j 0 L_impl_Colouring_renumbered_3_sp ((fun u s => (u.1, u.2.1, u.2.2.1, u.2.2.2.1, u.2.2.2.2, s, ())) u s)) w =
    B_impl_Colouring_renumbered_3 u.1 u.2.1 u.2.2.1 u.2.2.2.1 u.2.2.2.2 s N D0 w := by
  kernel_rfl

def O_impl_Colouring_renumbered_2 : Code → Post → List SV → World → Prop :=
  orc 3 (loopAt Try.f91 3) L_impl_Colouring_renumbered_3_sp (fun Φ fr w => LOOP (U := (Value × Value × Value × Value × Int)) (S := Int) ((fun v => (v.1, v.2.1, v.2.2.1, v.2.2.2.1, v.2.2.2.2.1)) (extT L_impl_Colouring_renumbered_3_sp fr)) (L_impl_Colouring_renumbered_3_b Φ ((fun v => (v.1, v.2.1, v.2.2.1, v.2.2.2.1, v.2.2.2.2.1)) (extT L_impl_Colouring_renumbered_3_sp fr))) ((fun v => v.2.2.2.2.2.1) (extT L_impl_Colouring_renumbered_3_sp fr)) w) O_impl_Colouring_renumbered_1

theorem O_impl_Colouring_renumbered_2_ok : Sound Try.prog O_impl_Colouring_renumbered_2 :=
  orc_ok O_impl_Colouring_renumbered_1_ok fun Φ fr w hs h => loop_ok (ty := ty) follows O_impl_Colouring_renumbered_1_ok L_impl_Colouring_renumbered_3_sp (fun v => (v.1, v.2.1, v.2.2.1, v.2.2.2.1, v.2.2.2.2.1)) (fun v => v.2.2.2.2.2.1) (fun u s => (u.1, u.2.1, u.2.2.1, u.2.2.2.1, u.2.2.2.2, s, ())) (fun _ => rfl) L_impl_Colouring_renumbered_3_ex L_impl_Colouring_renumbered_3_rt (body := L_impl_Colouring_renumbered_3_b Φ) (fun j u s w N hb => by
    have e := L_impl_Colouring_renumbered_3_eq j u s N (doorOf Φ (.exit 0) L_impl_Colouring_renumbered_3_e0).D (doorOf Φ .ret L_impl_Colouring_renumbered_3_rt).D w
    exact Eq.mpr e hb) hs h

def V_impl_Colouring_renumbered (x0 : Value) (p1 : Value) (w : World) (K : Value → World → Prop) : Prop :=
  (Pr Try.prog (Instr.alloc 28 true (.tuple #[])) w (.one .any) fun (x4_2 : Value) w_1 => (∀ w_3, Drew w_1 w_3 → (NilOk x0 ∧ (QAll Try.prog (Instr.fieldAt 28 x0 0) .any fun (x10_4 : Value) => (QSub Try.prog (Instr.loadAt 2 x10_4) w_3 (.int .i64) fun (x11_5 : Int) => (NilOk x0 ∧ (QAll Try.prog (Instr.fieldAt 28 x0 1) .any fun (x14_6 : Value) => (QSub Try.prog (Instr.loadAt 2 x14_6) w_3 (.int .i64) fun (x15_7 : Int) => ((Pr Try.prog (Instr.build 28 #[(0, (.int .i64 x11_5)), (1, (.int .i64 x15_7))]) w_3 (.one .any) fun (x16_9 : Value) w_8 => (Pr Try.prog (Instr.alloc 28 true (.tuple #[])) w_8 (.one .any) fun (out5_11 : Value) w_10 => (PrU Try.prog (Instr.storeAt 28 out5_11 x16_9) w_10 fun w_12 => (NilOk x0 ∧ (QAll Try.prog (Instr.fieldAt 28 x0 0) .any fun (x19_14 : Value) => (QSub Try.prog (Instr.loadAt 2 x19_14) w_12 (.int .i64) fun (x20_15 : Int) => (At (loopAt Try.f91 3) (loopAt Try.f91 3) (LOOP (U := (Value × Value × Value × Value × Int)) (S := Int) ((x0 : Value), (p1 : Value), (x4_2 : Value), (out5_11 : Value), x20_15) (fun N_38 s_39 w_40 => B_impl_Colouring_renumbered_3 (x0 : Value) (p1 : Value) (x4_2 : Value) (out5_11 : Value) x20_15 s_39 N_38 (fun (v_31 : (Value × Value × Unit)) w_32 => ∀ _j_33 : Nat → Value, (QSub Try.prog (Instr.loadAt 28 v_31.2.1) w_32 .any fun (x43_34 : Value) => (PrU Try.prog (Instr.storeAt 28 v_31.1 x43_34) w_32 fun w_35 => (QSub Try.prog (Instr.loadAt 28 v_31.1) w_35 .any fun (r_37 : Value) => K (r_37 : Value) w_35)))) w_40) (0 : Int) w_12)))))))) ∧ (Pr Try.prog (Instr.alloc 28 true (.tuple #[])) w_3 (.one .any) fun (out5_42 : Value) w_41 => (Keeps w_3 w_41 ((Pr Try.prog (Instr.build 28 #[(0, (.int .i64 x11_5)), (1, (.int .i64 x15_7))]) w_41 (.one .any) fun (x16_44 : Value) w_43 => (PrU Try.prog (Instr.storeAt 28 out5_42 x16_44) w_43 fun w_45 => (NilOk x0 ∧ (QAll Try.prog (Instr.fieldAt 28 x0 0) .any fun (x19_47 : Value) => (QSub Try.prog (Instr.loadAt 2 x19_47) w_45 (.int .i64) fun (x20_48 : Int) => (At (loopAt Try.f91 3) (loopAt Try.f91 3) (LOOP (U := (Value × Value × Value × Value × Int)) (S := Int) ((x0 : Value), (p1 : Value), (x4_2 : Value), (out5_42 : Value), x20_48) (fun N_56 s_57 w_58 => B_impl_Colouring_renumbered_3 (x0 : Value) (p1 : Value) (x4_2 : Value) (out5_42 : Value) x20_48 s_57 N_56 (fun (v_49 : (Value × Value × Unit)) w_50 => ∀ _j_51 : Nat → Value, (QSub Try.prog (Instr.loadAt 28 v_49.2.1) w_50 .any fun (x43_52 : Value) => (PrU Try.prog (Instr.storeAt 28 v_49.1 x43_52) w_50 fun w_53 => (QSub Try.prog (Instr.loadAt 28 v_49.1) w_53 .any fun (r_55 : Value) => K (r_55 : Value) w_53)))) w_58) (0 : Int) w_45)))))))))))))))))))

theorem eq_impl_Colouring_renumbered (x0 : Value) (p1 : Value) (w : World) (K : Value → World → Prop) :
    W Try.prog ty O_impl_Colouring_renumbered_2 (bodyOf Try.f91) (fnPost Try.prog Try.f91.results.toList (.one .any) K) (frame0 [x0, p1] 44) w = V_impl_Colouring_renumbered x0 p1 w K := by
  kernel_rfl

theorem body_impl_Colouring_renumbered : Try.f91.body = some (bodyOf Try.f91) := by kernel_rfl
theorem name_impl_Colouring_renumbered : (Try.f91.name == "runtime.NumGoroutine") = false := by kernel_rfl

theorem walk_impl_Colouring_renumbered (x0 : Value) (p1 : Value) {w : World} {K : Value → World → Prop} (h : V_impl_Colouring_renumbered x0 p1 w K) : Fc Try.prog 91 #[x0, p1] w (.one .any) K :=
  fn_ok follows O_impl_Colouring_renumbered_2_ok Try.func91 name_impl_Colouring_renumbered body_impl_Colouring_renumbered Try.ntmps91 [x0, p1] (Eq.mpr (eq_impl_Colouring_renumbered x0 p1 w K) h)

-- uses S8Ren
theorem c_impl_Colouring_renumbered {x a : Value} {c : Col} {p : List Int} {w : World} {K : Value → World → Prop} (hc : c.Ok) (hx : ColAt w x c) (n0 : 0 ≤ c.n) (n1 : c.n ≤ 17) (ha : SlI w a p) (hp : PermL p c.n)
    (hK : ∀ w', Below w.heap.size w w' → K (renC c p).val w') : Fc Try.prog F_impl_Colouring_renumbered #[x, a] w (.one .any) K := by
  refine walk_impl_Colouring_renumbered _ _ (c_alloc fun r w1 q1 hv => ?_)
  intro w2 hd
  have q2 := q1.trans (hd.below w.heap.size)
  have hx2 := hx.keep q2
  have hv2 := hv.keep (hd.below w1.heap.size)
  have hs2 := q2.size
  refine ⟨hx.nonnil, col_n hx2 ⟨hx.nonnil, col_k hx2 ⟨build2 (allocA yC fun b w3 n3 => ?_), allocA yC fun b w3 n3 => ⟨n3.below, build2 ?_⟩⟩⟩⟩
  all_goals
    have e3 := n3.here
    have s3 := n3.size
    have hne := hv2.ne (Nat.le_of_eq e3.symm)
    refine stA0 yC n3.at_ (by simp [Col.cells, zC, zA]) (by simp [Col.cells, zC, zA]) (Col.cells_one _) fun w4 m4 s4 h4 => ?_
    have hv4 := (hv2.keep n3.below).mod m4 hne
    have q4 : Below w.heap.size w w4 := (q2.trans (n3.below.mono hs2)).trans (m4.below (by omega) (by simp; omega))
    have hlb : w.heap.size ≤ b := by omega
    have hle := hp.len
    refine ⟨hx.nonnil, col_n (hx.keep q4) ?_⟩
    refine lp (fun j w' => 0 ≤ j ∧ j ≤ c.n ∧ Below w.heap.size w w' ∧ CVar w.heap.size w' r ∧ BlkC w' b ⟨c.n, c.k, renE c p (edgesOf j).toNat⟩) (fun j _ => (c.n - j).toNat)
      ⟨by omega, by omega, q4, hv4, by rw [show (edgesOf 0).toNat = 0 from by decide]; exact h4⟩ ?_
    rintro j w5 N ⟨j0, j1, q5, hv5, h5⟩ hN
    unfold B_impl_Colouring_renumbered_3
    refine ⟨fun hlt => ?_, fun hge => ?_⟩
    · have hlt := dec_t hlt
      refine lp (fun i w' => 0 ≤ i ∧ i ≤ j ∧ Below w.heap.size w w' ∧ CVar w.heap.size w' r ∧ BlkC w' b ⟨c.n, c.k, renE c p (edgesOf j + i).toNat⟩) (fun i _ => (j - i).toNat)
        ⟨by omega, by omega, q5, hv5, by rw [Int.add_zero]; exact h5⟩ ?_
      rintro i w6 N' ⟨i0, i1, q6, hv6, h6⟩ hN'
      unfold B_impl_Colouring_renumbered_6
      refine ⟨fun hlt2 => ?_, fun hge2 => ?_⟩
      · have hlt2 := dec_t hlt2
        intro w7 hd7
        have b67 := hd7.below w6.heap.size
        have q7 := q6.trans (hd7.below w.heap.size)
        have bi := hp.bd i.toNat (by omega)
        have bj := hp.bd j.toNat (by omega)
        have hdi := hp.ne i.toNat j.toNat (by omega) (by omega)
        have hat := hc.e_bd (num i j).toNat
        refine atI (ha.keep q7) i0 (by omega) (atI (ha.keep q7) j0 (by omega) (c_impl_Colouring_at hc (hx.keep q7) i0 (by omega) j0 (by omega) (by omega) fun w8 q8 => ⟨q8, ?_⟩))
        have b68 := b67.trans (q8.mono b67.size)
        have q68 := q7.trans (q8.mono q7.size)
        have h8 : BlkC w8 b ⟨c.n, c.k, renE c p (edgesOf j + i).toNat⟩ := below_at b68 h6 (at_lt h6)
        refine c_impl_Colouring_put h8 (renE_len _ _ _) bi.1 (by omega) bj.1 (by omega) hdi hat.1 hat.2 fun w9 m9 h9 => ?_
        rw [wrap_small (by omega) (by omega)]
        have hz := q68.size; have hlb2 := at_lt h8
        refine hN' _ _ ⟨by omega, by omega, q68.trans (m9.below (by omega) (by simp; omega)), (hv6.keep b68).mod m9 hne, ?_⟩ (by omega)
        have := renE_succ c p i0 hlt2 (by omega)
        unfold colAt at this
        rw [this]
        exact h9
      · have hge2 := dec_f hge2
        have : i = j := by omega
        subst this
        intro _
        show N _ (IntKind.i64.wrap (i + 1)) w6
        rw [wrap_small (by omega) (by omega)]
        refine hN _ _ ⟨by omega, by omega, q6, hv6, ?_⟩ (by omega)
        rw [edgesOf_succ]; exact h6
    · have hge := dec_f hge
      have : j = c.n := by omega
      subst this
      intro _
      have hs5 := q5.size
      exact col_all (renC_ok hc p) (blk_row h5) (c_ret (renC_ok hc p) hv5 hs5 fun w6 q6 => hK w6 (q5.trans q6))

end Go.Proofs.Ytdkodhonaoecnaa
