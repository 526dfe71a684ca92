/- The reading of impl_faultsAt, and its contract. No condition. -/
import Derived.Test.YtdkodhonaoecnaaTy
import Derived.Test.YtdkodhonaoecnaaS8Fault
namespace Go.Proofs.Ytdkodhonaoecnaa
open Go Go.RowKit Eng Mem
set_option linter.unusedVariables false
set_option maxRecDepth 100000
def B_impl_faultsAt_1 (part0 : Value) (kind1 : Int) (z2 : Int) (with3 : Value) (y8 : Int) (N : (Value × Int × Int × Value) → Int → World → Prop) (D0 : (Unit) → World → Prop) (w : World) : Prop :=
  (((decide (y8 < z2)) = true → (((kind1 == (2 : Int)) = true → (∀ w_1, Drew w w_1 → (((decide ((IntKind.i64.wrap ((IntKind.i64.wrap ((2 : Int) * y8)) - z2)) < (1 : Int))) = true → N ((part0 : Value), kind1, z2, (with3 : Value)) (IntKind.i64.wrap (y8 + (1 : Int))) w_1) ∧ ((decide ((IntKind.i64.wrap ((IntKind.i64.wrap ((2 : Int) * y8)) - z2)) < (1 : Int))) = false → (((decide ((IntKind.i64.wrap ((IntKind.i64.wrap ((2 : Int) * y8)) - z2)) > y8)) = true → N ((part0 : Value), kind1, z2, (with3 : Value)) (IntKind.i64.wrap (y8 + (1 : Int))) w_1) ∧ ((decide ((IntKind.i64.wrap ((IntKind.i64.wrap ((2 : Int) * y8)) - z2)) > y8)) = false → ((((IntKind.i64.wrap ((IntKind.i64.wrap ((2 : Int) * y8)) - z2)) == y8) = true → (((kind1 != (0 : Int)) = true → N ((part0 : Value), kind1, z2, (with3 : Value)) (IntKind.i64.wrap (y8 + (1 : Int))) w_1) ∧ ((kind1 != (0 : Int)) = false → (QAll Try.prog (Instr.indexAt 25 part0 (.int .i64 (IntKind.i64.wrap ((IntKind.i64.wrap ((IntKind.i64.wrap ((2 : Int) * y8)) - z2)) - (1 : Int))))) .any fun (x44_2 : Value) => (QSub Try.prog (Instr.loadAt 2 x44_2) w_1 (.int .i64) fun (x45_3 : Int) => (QAll Try.prog (Instr.indexAt 25 part0 (.int .i64 (IntKind.i64.wrap (z2 - (1 : Int))))) .any fun (x49_4 : Value) => (QSub Try.prog (Instr.loadAt 2 x49_4) w_1 (.int .i64) fun (x50_5 : Int) => (((x45_3 != x50_5) = true → N ((part0 : Value), kind1, z2, (with3 : Value)) (IntKind.i64.wrap (y8 + (1 : Int))) w_1) ∧ ((x45_3 != x50_5) = false → (QAll Try.prog (Instr.indexAt 25 part0 (.int .i64 (IntKind.i64.wrap (y8 - (1 : Int))))) .any fun (x57_6 : Value) => (QSub Try.prog (Instr.loadAt 2 x57_6) w_1 (.int .i64) fun (x58_7 : Int) => (QAll Try.prog (Instr.indexAt 25 part0 (.int .i64 (IntKind.i64.wrap (z2 - (1 : Int))))) .any fun (x62_8 : Value) => (QSub Try.prog (Instr.loadAt 2 x62_8) w_1 (.int .i64) fun (x63_9 : Int) => (((x58_7 != x63_9) = true → N ((part0 : Value), kind1, z2, (with3 : Value)) (IntKind.i64.wrap (y8 + (1 : Int))) w_1) ∧ ((x58_7 != x63_9) = false → (callV Try.prog with3 #[(.int .i64 (IntKind.i64.wrap ((IntKind.i64.wrap ((2 : Int) * y8)) - z2))), (.int .i64 y8)] w_1 .unit fun (x69_11 : Unit) w_10 => N ((part0 : Value), kind1, z2, (with3 : Value)) (IntKind.i64.wrap (y8 + (1 : Int))) w_10)))))))))))))))) ∧ (((IntKind.i64.wrap ((IntKind.i64.wrap ((2 : Int) * y8)) - z2)) == y8) = false → (QAll Try.prog (Instr.indexAt 25 part0 (.int .i64 (IntKind.i64.wrap ((IntKind.i64.wrap ((IntKind.i64.wrap ((2 : Int) * y8)) - z2)) - (1 : Int))))) .any fun (x44_12 : Value) => (QSub Try.prog (Instr.loadAt 2 x44_12) w_1 (.int .i64) fun (x45_13 : Int) => (QAll Try.prog (Instr.indexAt 25 part0 (.int .i64 (IntKind.i64.wrap (z2 - (1 : Int))))) .any fun (x49_14 : Value) => (QSub Try.prog (Instr.loadAt 2 x49_14) w_1 (.int .i64) fun (x50_15 : Int) => (((x45_13 != x50_15) = true → N ((part0 : Value), kind1, z2, (with3 : Value)) (IntKind.i64.wrap (y8 + (1 : Int))) w_1) ∧ ((x45_13 != x50_15) = false → (QAll Try.prog (Instr.indexAt 25 part0 (.int .i64 (IntKind.i64.wrap (y8 - (1 : Int))))) .any fun (x57_16 : Value) => (QSub Try.prog (Instr.loadAt 2 x57_16) w_1 (.int .i64) fun (x58_17 : Int) => (QAll Try.prog (Instr.indexAt 25 part0 (.int .i64 (IntKind.i64.wrap (z2 - (1 : Int))))) .any fun (x62_18 : Value) => (QSub Try.prog (Instr.loadAt 2 x62_18) w_1 (.int .i64) fun (x63_19 : Int) => (((x58_17 != x63_19) = true → N ((part0 : Value), kind1, z2, (with3 : Value)) (IntKind.i64.wrap (y8 + (1 : Int))) w_1) ∧ ((x58_17 != x63_19) = false → (callV Try.prog with3 #[(.int .i64 (IntKind.i64.wrap ((IntKind.i64.wrap ((2 : Int) * y8)) - z2))), (.int .i64 y8)] w_1 .unit fun (x69_21 : Unit) w_20 => N ((part0 : Value), kind1, z2, (with3 : Value)) (IntKind.i64.wrap (y8 + (1 : Int))) w_20))))))))))))))))))))) ∧ ((kind1 == (2 : Int)) = false → (∀ w_22, Drew w w_22 → (((decide ((IntKind.i64.wrap (z2 - y8)) < (1 : Int))) = true → N ((part0 : Value), kind1, z2, (with3 : Value)) (IntKind.i64.wrap (y8 + (1 : Int))) w_22) ∧ ((decide ((IntKind.i64.wrap (z2 - y8)) < (1 : Int))) = false → (((decide ((IntKind.i64.wrap (z2 - y8)) > y8)) = true → N ((part0 : Value), kind1, z2, (with3 : Value)) (IntKind.i64.wrap (y8 + (1 : Int))) w_22) ∧ ((decide ((IntKind.i64.wrap (z2 - y8)) > y8)) = false → ((((IntKind.i64.wrap (z2 - y8)) == y8) = true → (((kind1 != (0 : Int)) = true → N ((part0 : Value), kind1, z2, (with3 : Value)) (IntKind.i64.wrap (y8 + (1 : Int))) w_22) ∧ ((kind1 != (0 : Int)) = false → (QAll Try.prog (Instr.indexAt 25 part0 (.int .i64 (IntKind.i64.wrap ((IntKind.i64.wrap (z2 - y8)) - (1 : Int))))) .any fun (x44_23 : Value) => (QSub Try.prog (Instr.loadAt 2 x44_23) w_22 (.int .i64) fun (x45_24 : Int) => (QAll Try.prog (Instr.indexAt 25 part0 (.int .i64 (IntKind.i64.wrap (z2 - (1 : Int))))) .any fun (x49_25 : Value) => (QSub Try.prog (Instr.loadAt 2 x49_25) w_22 (.int .i64) fun (x50_26 : Int) => (((x45_24 != x50_26) = true → N ((part0 : Value), kind1, z2, (with3 : Value)) (IntKind.i64.wrap (y8 + (1 : Int))) w_22) ∧ ((x45_24 != x50_26) = false → (QAll Try.prog (Instr.indexAt 25 part0 (.int .i64 (IntKind.i64.wrap (y8 - (1 : Int))))) .any fun (x57_27 : Value) => (QSub Try.prog (Instr.loadAt 2 x57_27) w_22 (.int .i64) fun (x58_28 : Int) => (QAll Try.prog (Instr.indexAt 25 part0 (.int .i64 (IntKind.i64.wrap (z2 - (1 : Int))))) .any fun (x62_29 : Value) => (QSub Try.prog (Instr.loadAt 2 x62_29) w_22 (.int .i64) fun (x63_30 : Int) => (((x58_28 != x63_30) = true → N ((part0 : Value), kind1, z2, (with3 : Value)) (IntKind.i64.wrap (y8 + (1 : Int))) w_22) ∧ ((x58_28 != x63_30) = false → (callV Try.prog with3 #[(.int .i64 (IntKind.i64.wrap (z2 - y8))), (.int .i64 y8)] w_22 .unit fun (x69_32 : Unit) w_31 => N ((part0 : Value), kind1, z2, (with3 : Value)) (IntKind.i64.wrap (y8 + (1 : Int))) w_31)))))))))))))))) ∧ (((IntKind.i64.wrap (z2 - y8)) == y8) = false → (QAll Try.prog (Instr.indexAt 25 part0 (.int .i64 (IntKind.i64.wrap ((IntKind.i64.wrap (z2 - y8)) - (1 : Int))))) .any fun (x44_33 : Value) => (QSub Try.prog (Instr.loadAt 2 x44_33) w_22 (.int .i64) fun (x45_34 : Int) => (QAll Try.prog (Instr.indexAt 25 part0 (.int .i64 (IntKind.i64.wrap (z2 - (1 : Int))))) .any fun (x49_35 : Value) => (QSub Try.prog (Instr.loadAt 2 x49_35) w_22 (.int .i64) fun (x50_36 : Int) => (((x45_34 != x50_36) = true → N ((part0 : Value), kind1, z2, (with3 : Value)) (IntKind.i64.wrap (y8 + (1 : Int))) w_22) ∧ ((x45_34 != x50_36) = false → (QAll Try.prog (Instr.indexAt 25 part0 (.int .i64 (IntKind.i64.wrap (y8 - (1 : Int))))) .any fun (x57_37 : Value) => (QSub Try.prog (Instr.loadAt 2 x57_37) w_22 (.int .i64) fun (x58_38 : Int) => (QAll Try.prog (Instr.indexAt 25 part0 (.int .i64 (IntKind.i64.wrap (z2 - (1 : Int))))) .any fun (x62_39 : Value) => (QSub Try.prog (Instr.loadAt 2 x62_39) w_22 (.int .i64) fun (x63_40 : Int) => (((x58_38 != x63_40) = true → N ((part0 : Value), kind1, z2, (with3 : Value)) (IntKind.i64.wrap (y8 + (1 : Int))) w_22) ∧ ((x58_38 != x63_40) = false → (callV Try.prog with3 #[(.int .i64 (IntKind.i64.wrap (z2 - y8))), (.int .i64 y8)] w_22 .unit fun (x69_42 : Unit) w_41 => N ((part0 : Value), kind1, z2, (with3 : Value)) (IntKind.i64.wrap (y8 + (1 : Int))) w_41))))))))))))))))))))))) ∧ ((decide (y8 < z2)) = false → D0 () w))

abbrev L_impl_faultsAt_1_e0 : List Slot := [.junk, .junk, .junk, .junk, .junk, .junk, .junk, .junk, .junk, .junk, .junk, .junk, .junk, .junk, .junk, .junk, .junk, .junk, .junk, .junk, .junk, .junk, .junk, .junk, .junk, .junk, .junk, .junk, .junk, .junk, .junk, .junk, .junk, .junk, .junk, .junk, .junk, .junk, .junk, .junk, .junk, .junk, .junk, .junk, .junk, .junk, .junk, .junk, .junk, .junk, .junk, .junk, .junk, .junk, .junk, .junk, .junk, .junk, .junk, .junk, .junk, .junk, .junk, .junk, .junk, .junk, .junk, .junk, .junk, .junk]

abbrev L_impl_faultsAt_1_sp : List Slot := [.k .any, .k (.int .i64), .k (.int .i64), .k .any, .junk, .junk, .junk, .junk, .k (.int .i64), .junk, .junk, .junk, .junk, .junk, .junk, .junk, .junk, .junk, .junk, .junk, .junk, .junk, .junk, .junk, .junk, .junk, .junk, .junk, .junk, .junk, .junk, .junk, .junk, .junk, .junk, .junk, .junk, .junk, .junk, .junk, .junk, .junk, .junk, .junk, .junk, .junk, .junk, .junk, .junk, .junk, .junk, .junk, .junk, .junk, .junk, .junk, .junk, .junk, .junk, .junk, .junk, .junk, .junk, .junk, .junk, .junk, .junk, .junk, .junk, .junk]
abbrev L_impl_faultsAt_1_ex : List (Nat × List Slot) := [(0, L_impl_faultsAt_1_e0)]
abbrev L_impl_faultsAt_1_rt : List Slot := [.junk, .junk, .junk, .junk, .junk, .junk, .junk, .junk, .junk, .junk, .junk, .junk, .junk, .junk, .junk, .junk, .junk, .junk, .junk, .junk, .junk, .junk, .junk, .junk, .junk, .junk, .junk, .junk, .junk, .junk, .junk, .junk, .junk, .junk, .junk, .junk, .junk, .junk, .junk, .junk, .junk, .junk, .junk, .junk, .junk, .junk, .junk, .junk, .junk, .junk, .junk, .junk, .junk, .junk, .junk, .junk, .junk, .junk, .junk, .junk, .junk, .junk, .junk, .junk, .junk, .junk, .junk, .junk, .junk, .junk]

def L_impl_faultsAt_1_b (Φ : Post) (u : (Value × Int × Int × Value)) (N : (Value × Int × Int × Value) → Int → World → Prop) (s : Int) (w : World) : Prop :=
  B_impl_faultsAt_1 u.1 u.2.1 u.2.2.1 u.2.2.2 s N (fun v w => ∀ j : Nat → Value, Φ (.exit 0) (mkT j 0 L_impl_faultsAt_1_e0 v) w) w

theorem L_impl_faultsAt_1_eq (j : Nat → Value) (u : (Value × Int × Int × Value)) (s : Int) (N : (Value × Int × Int × Value) → Int → World → Prop) (D0 : (Unit) → World → Prop) (R : (Unit) → World → Prop) (w : World) :
    W Try.prog ty (fun _ _ _ _ => False) (loopAt Try.f118 1) (loopPost L_impl_faultsAt_1_sp [(0, (⟨L_impl_faultsAt_1_e0, D0⟩ : Door))] ⟨L_impl_faultsAt_1_rt, R⟩ (fun v w => N ((fun v => (v.1, v.2.1, v.2.2.1, v.2.2.2.1)) v) ((fun v => v.2.2.2.2.1) v) w)) (mkT j 0 L_impl_faultsAt_1_sp ((fun u s => (u.1, u.2.1, u.2.2.1, u.2.2.2, s, ())) u s)) w =
    B_impl_faultsAt_1 u.1 u.2.1 u.2.2.1 u.2.2.2 s N D0 w := by
  kernel_rfl

def O_impl_faultsAt_1 : Code → Post → List SV → World → Prop :=
  orc 1 (loopAt Try.f118 1) L_impl_faultsAt_1_sp (fun Φ fr w => LOOP (U := (Value × Int × Int × Value)) (S := Int) ((fun v => (v.1, v.2.1, v.2.2.1, v.2.2.2.1)) (extT L_impl_faultsAt_1_sp fr)) (L_impl_faultsAt_1_b Φ ((fun v => (v.1, v.2.1, v.2.2.1, v.2.2.2.1)) (extT L_impl_faultsAt_1_sp fr))) ((fun v => v.2.2.2.2.1) (extT L_impl_faultsAt_1_sp fr)) w) (fun _ _ _ _ => False)

theorem O_impl_faultsAt_1_ok : Sound Try.prog O_impl_faultsAt_1 :=
  orc_ok (sound_none _) fun Φ fr w hs h => loop_ok (ty := ty) follows (sound_none _) L_impl_faultsAt_1_sp (fun v => (v.1, v.2.1, v.2.2.1, v.2.2.2.1)) (fun v => v.2.2.2.2.1) (fun u s => (u.1, u.2.1, u.2.2.1, u.2.2.2, s, ())) (fun _ => rfl) L_impl_faultsAt_1_ex L_impl_faultsAt_1_rt (body := L_impl_faultsAt_1_b Φ) (fun j u s w N hb => by
    have e := L_impl_faultsAt_1_eq j u s N (doorOf Φ (.exit 0) L_impl_faultsAt_1_e0).D (doorOf Φ .ret L_impl_faultsAt_1_rt).D w
    exact Eq.mpr e hb) hs h

def V_impl_faultsAt (part0 : Value) (kind1 : Int) (z2 : Int) (with3 : Value) (w : World) (K : Unit → World → Prop) : Prop :=
  (At (loopAt Try.f118 1) (loopAt Try.f118 1) (LOOP (U := (Value × Int × Int × Value)) (S := Int) ((part0 : Value), kind1, z2, (with3 : Value)) (fun N_46 s_47 w_48 => B_impl_faultsAt_1 (part0 : Value) kind1 z2 (with3 : Value) s_47 N_46 (fun (v_43 : (Unit)) w_44 => ∀ _j_45 : Nat → Value, K () w_44) w_48) (1 : Int) w))

theorem eq_impl_faultsAt (part0 : Value) (kind1 : Int) (z2 : Int) (with3 : Value) (w : World) (K : Unit → World → Prop) :
    W Try.prog ty O_impl_faultsAt_1 (bodyOf Try.f118) (fnPost Try.prog Try.f118.results.toList .unit K) (frame0 [part0, (.int .i64 kind1), (.int .i64 z2), with3] 70) w = V_impl_faultsAt part0 kind1 z2 with3 w K := by
  kernel_rfl

theorem body_impl_faultsAt : Try.f118.body = some (bodyOf Try.f118) := by kernel_rfl
theorem name_impl_faultsAt : (Try.f118.name == "runtime.NumGoroutine") = false := by kernel_rfl

theorem walk_impl_faultsAt (part0 : Value) (kind1 : Int) (z2 : Int) (with3 : Value) {w : World} {K : Unit → World → Prop} (h : V_impl_faultsAt part0 kind1 z2 with3 w K) : Fc Try.prog 118 #[part0, (.int .i64 kind1), (.int .i64 z2), with3] w .unit K :=
  fn_ok follows O_impl_faultsAt_1_ok Try.func118 name_impl_faultsAt body_impl_faultsAt Try.ntmps118 [part0, (.int .i64 kind1), (.int .i64 z2), with3] (Eq.mpr (eq_impl_faultsAt part0 kind1 z2 with3 w K) h)

-- uses S8Fault
theorem c_impl_faultsAt {a f : Value} {l : List Int} {kind z : Int} {w : World} {K : Unit → World → Prop} (J : List (Int × Int) → World → Prop) (hl : l.length ≤ 41) (hk : 0 ≤ kind ∧ kind ≤ 2) (z0 : 0 ≤ z) (z1 : z ≤ l.length)
    (hsl : ∀ d w', J d w' → SlI w' a l) (hdr : ∀ d w' w'', J d w' → Drew w' w'' → J d w'')
    (hcall : ∀ (y : Int), 1 ≤ y → y < z → IsF l kind y z → ∀ (w' : World) (K' : Unit → World → Prop), J (fz l kind z (y - 1).toNat) w' → (∀ w'', J (fz l kind z (y - 1).toNat ++ [(xF kind y z, y)]) w'' → K' () w'') → callV Try.prog f #[.int .i64 (xF kind y z), .int .i64 y] w' .unit K')
    (h0 : J [] w) (hK : ∀ w', J (fz l kind z (z - 1).toNat) w' → K () w') : Fc Try.prog F_impl_faultsAt #[a, .int .i64 kind, .int .i64 z, f] w .unit K := by
  refine walk_impl_faultsAt _ _ _ _ ?_
  refine lp (fun y w' => 1 ≤ y ∧ (y ≤ z ∨ y = 1) ∧ J (fz l kind z (y - 1).toNat) w') (fun y _ => (z + 1 - y).toNat) ⟨by omega, by omega, h0⟩ ?_
  rintro y w0 N ⟨y0, y1, hJ⟩ hN
  unfold B_impl_faultsAt_1
  refine ⟨fun hlt => ?_, fun hge => ?_⟩
  · have hlt := dec_t hlt
    refine ⟨fun hk2 w1 hd => ?_, fun hk2 w1 hd => ?_⟩
    · have hk2 := eq_t hk2
      have e : IntKind.i64.wrap (IntKind.i64.wrap (2 * y) - z) = 2 * y - z := by rw [wrap_small (n := 2 * y) (by omega) (by omega), wrap_small (by omega) (by omega)]
      rw [e]
      have hx : 2 * y - z = xF kind y z := by rw [xF, if_pos hk2]
      have hx0 : 2 * y - z ≤ 1000 ∧ -1000 ≤ 2 * y - z := by omega
      generalize 2 * y - z = x at *
      have hj := hdr _ _ _ hJ hd
      have hs := hsl _ _ hj
      have hsucc := fz_succ l kind z (y - 1).toNat
      rw [show (((y - 1).toNat : Int) + 1) = y from by omega] at hsucc
      have skip : ¬ IsF l kind y z → N (a, kind, z, f) (IntKind.i64.wrap (y + 1)) w1 := fun hn => by
        rw [if_neg hn, List.append_nil] at hsucc
        rw [wrap_small (by omega) (by omega)]
        exact hN _ _ ⟨by omega, by omega, by rw [show (y + 1 - 1).toNat = (y - 1).toNat + 1 from by omega, hsucc]; exact hj⟩ (by omega)
      have take : IsF l kind y z → callV Try.prog f #[.int .i64 x, .int .i64 y] w1 .unit fun (_ : Unit) w2 => N (a, kind, z, f) (IntKind.i64.wrap (y + 1)) w2 := fun hi => by
        rw [if_pos hi, ← hx] at hsucc
        have hc := hcall y y0 hlt hi w1 (fun _ w2 => N (a, kind, z, f) (IntKind.i64.wrap (y + 1)) w2) hj
        rw [← hx] at hc
        refine hc fun w2 hj2 => ?_
        rw [wrap_small (by omega) (by omega)]
        exact hN _ _ ⟨by omega, by omega, by rw [show (y + 1 - 1).toNat = (y - 1).toNat + 1 from by omega, hsucc]; exact hj2⟩ (by omega)
      unfold IsF at skip take
      rw [← hx] at skip take
      refine ⟨fun e => skip fun hh => by have := dec_t e; omega, fun e1 => ⟨fun e => skip fun hh => by have := dec_t e; omega, fun e2 => ?_⟩⟩
      have e1 := dec_f e1
      have e2 := dec_f e2
      refine ⟨fun e3 => ⟨fun e => skip fun hh => hh.2.2.1 ⟨by have := ne_t e; omega, eq_t e3⟩, fun e4 => ?_⟩, fun e3 => ?_⟩
      · have hkk : ¬ (kind > 0 ∧ x = y) := fun hh => by have := ne_f e4; omega
        rw [wrap_small (n := x - 1) (by omega) (by omega), wrap_small (n := y - 1) (by omega) (by omega), wrap_small (n := z - 1) (by omega) (by omega)]
        refine atI hs (by omega) (by omega) (atI hs (by omega) (by omega) ⟨fun e => skip fun hh => ne_t e (hh.2.2.2.1.trans hh.2.2.2.2), fun e3 => ?_⟩)
        have e3 := ne_f e3
        refine atI hs (by omega) (by omega) (atI hs (by omega) (by omega) ⟨fun e => skip fun hh => ne_t e hh.2.2.2.2, fun e4 => ?_⟩)
        have e4 := ne_f e4
        exact take ⟨by omega, by omega, hkk, e3.trans e4.symm, e4⟩
      · have hkk : ¬ (kind > 0 ∧ x = y) := fun hh => eq_f e3 hh.2
        rw [wrap_small (n := x - 1) (by omega) (by omega), wrap_small (n := y - 1) (by omega) (by omega), wrap_small (n := z - 1) (by omega) (by omega)]
        refine atI hs (by omega) (by omega) (atI hs (by omega) (by omega) ⟨fun e => skip fun hh => ne_t e (hh.2.2.2.1.trans hh.2.2.2.2), fun e3 => ?_⟩)
        have e3 := ne_f e3
        refine atI hs (by omega) (by omega) (atI hs (by omega) (by omega) ⟨fun e => skip fun hh => ne_t e hh.2.2.2.2, fun e4 => ?_⟩)
        have e4 := ne_f e4
        exact take ⟨by omega, by omega, hkk, e3.trans e4.symm, e4⟩
    · have hk2 := eq_f hk2
      have e : IntKind.i64.wrap (z - y) = z - y := wrap_small (by omega) (by omega)
      rw [e]
      have hx : z - y = xF kind y z := by rw [xF, if_neg hk2]
      have hx0 : z - y ≤ 1000 ∧ -1000 ≤ z - y := by omega
      generalize z - y = x at *
      have hj := hdr _ _ _ hJ hd
      have hs := hsl _ _ hj
      have hsucc := fz_succ l kind z (y - 1).toNat
      rw [show (((y - 1).toNat : Int) + 1) = y from by omega] at hsucc
      have skip : ¬ IsF l kind y z → N (a, kind, z, f) (IntKind.i64.wrap (y + 1)) w1 := fun hn => by
        rw [if_neg hn, List.append_nil] at hsucc
        rw [wrap_small (by omega) (by omega)]
        exact hN _ _ ⟨by omega, by omega, by rw [show (y + 1 - 1).toNat = (y - 1).toNat + 1 from by omega, hsucc]; exact hj⟩ (by omega)
      have take : IsF l kind y z → callV Try.prog f #[.int .i64 x, .int .i64 y] w1 .unit fun (_ : Unit) w2 => N (a, kind, z, f) (IntKind.i64.wrap (y + 1)) w2 := fun hi => by
        rw [if_pos hi, ← hx] at hsucc
        have hc := hcall y y0 hlt hi w1 (fun _ w2 => N (a, kind, z, f) (IntKind.i64.wrap (y + 1)) w2) hj
        rw [← hx] at hc
        refine hc fun w2 hj2 => ?_
        rw [wrap_small (by omega) (by omega)]
        exact hN _ _ ⟨by omega, by omega, by rw [show (y + 1 - 1).toNat = (y - 1).toNat + 1 from by omega, hsucc]; exact hj2⟩ (by omega)
      unfold IsF at skip take
      rw [← hx] at skip take
      refine ⟨fun e => skip fun hh => by have := dec_t e; omega, fun e1 => ⟨fun e => skip fun hh => by have := dec_t e; omega, fun e2 => ?_⟩⟩
      have e1 := dec_f e1
      have e2 := dec_f e2
      refine ⟨fun e3 => ⟨fun e => skip fun hh => hh.2.2.1 ⟨by have := ne_t e; omega, eq_t e3⟩, fun e4 => ?_⟩, fun e3 => ?_⟩
      · have hkk : ¬ (kind > 0 ∧ x = y) := fun hh => by have := ne_f e4; omega
        rw [wrap_small (n := x - 1) (by omega) (by omega), wrap_small (n := y - 1) (by omega) (by omega), wrap_small (n := z - 1) (by omega) (by omega)]
        refine atI hs (by omega) (by omega) (atI hs (by omega) (by omega) ⟨fun e => skip fun hh => ne_t e (hh.2.2.2.1.trans hh.2.2.2.2), fun e3 => ?_⟩)
        have e3 := ne_f e3
        refine atI hs (by omega) (by omega) (atI hs (by omega) (by omega) ⟨fun e => skip fun hh => ne_t e hh.2.2.2.2, fun e4 => ?_⟩)
        have e4 := ne_f e4
        exact take ⟨by omega, by omega, hkk, e3.trans e4.symm, e4⟩
      · have hkk : ¬ (kind > 0 ∧ x = y) := fun hh => eq_f e3 hh.2
        rw [wrap_small (n := x - 1) (by omega) (by omega), wrap_small (n := y - 1) (by omega) (by omega), wrap_small (n := z - 1) (by omega) (by omega)]
        refine atI hs (by omega) (by omega) (atI hs (by omega) (by omega) ⟨fun e => skip fun hh => ne_t e (hh.2.2.2.1.trans hh.2.2.2.2), fun e3 => ?_⟩)
        have e3 := ne_f e3
        refine atI hs (by omega) (by omega) (atI hs (by omega) (by omega) ⟨fun e => skip fun hh => ne_t e hh.2.2.2.2, fun e4 => ?_⟩)
        have e4 := ne_f e4
        exact take ⟨by omega, by omega, hkk, e3.trans e4.symm, e4⟩
  · have hge := dec_f hge
    intro _
    refine hK w0 ?_
    rwa [show (z - 1).toNat = (y - 1).toNat from by omega]

end Go.Proofs.Ytdkodhonaoecnaa
