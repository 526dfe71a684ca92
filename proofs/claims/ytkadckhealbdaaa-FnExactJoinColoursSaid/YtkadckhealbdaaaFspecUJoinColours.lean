/- The reading of spec_JoinColours, and its contract. No condition. -/
import Derived.Test.YtkadckhealbdaaaTy
import Derived.Test.YtkadckhealbdaaaS8Rec
import Derived.Test.YtkadckhealbdaaaFspecUl01Given
import Derived.Test.YtkadckhealbdaaaFspecUl01In
import Derived.Test.YtkadckhealbdaaaFspecUl01Turned
namespace Go.Proofs.Ytkadckhealbdaaa
open Go Go.RowKit Eng Mem
set_option linter.unusedVariables false
set_option maxRecDepth 100000
def B_spec_JoinColours_8 (c1 : Int) (d2 : Int) (x3 : Value) (x6 : Value) (q9 : Value) (own10 : Int) (N : (Int × Int × Value × Value) → (Value × Int) → World → Prop) (D0 : (Value × Value × Value × Unit) → World → Prop) (w : World) : Prop :=
  (QAll Try.prog (Instr.fieldAt 25 x3 1) .any fun (x33_19 : Value) => (QSub Try.prog (Instr.loadAt 2 x33_19) w (.int .i64) fun (x34_20 : Int) => (((decide (own10 < x34_20)) = true → (((decide (own10 < d2)) = true → (Pr Try.prog (Instr.buildSlice 31 1 #[(0, (.int .i64 own10))]) w (.one .any) fun (x49_22 : Value) w_21 => (Pr Try.prog (Builtin.append_ #[31, 31] 31 #[q9, x49_22]) w_21 (.one .any) fun (x50_24 : Value) w_23 => N (c1, d2, (x3 : Value), (x6 : Value)) ((x50_24 : Value), (IntKind.i64.wrap (own10 + (1 : Int)))) w_23))) ∧ ((decide (own10 < d2)) = false → (((own10 == d2) = true → (Pr Try.prog (Instr.buildSlice 31 1 #[(0, (.int .i64 c1))]) w (.one .any) fun (x57_26 : Value) w_25 => (Pr Try.prog (Builtin.append_ #[31, 31] 31 #[q9, x57_26]) w_25 (.one .any) fun (x58_28 : Value) w_27 => N (c1, d2, (x3 : Value), (x6 : Value)) ((x58_28 : Value), (IntKind.i64.wrap (own10 + (1 : Int)))) w_27))) ∧ ((own10 == d2) = false → (Pr Try.prog (Instr.buildSlice 31 1 #[(0, (.int .i64 (IntKind.i64.wrap (own10 - (1 : Int)))))]) w (.one .any) fun (x41_30 : Value) w_29 => (Pr Try.prog (Builtin.append_ #[31, 31] 31 #[q9, x41_30]) w_29 (.one .any) fun (x42_32 : Value) w_31 => N (c1, d2, (x3 : Value), (x6 : Value)) ((x42_32 : Value), (IntKind.i64.wrap (own10 + (1 : Int)))) w_31))))))) ∧ ((decide (own10 < x34_20)) = false → D0 ((x3 : Value), (x6 : Value), (q9 : Value), ()) w))))

abbrev L_spec_JoinColours_8_e0 : List Slot := [.junk, .junk, .junk, .k .any, .junk, .junk, .k .any, .junk, .junk, .k .any, .junk, .junk, .junk, .junk, .junk, .junk, .junk, .junk, .junk, .junk, .junk, .junk, .junk, .junk, .junk, .junk, .junk, .junk, .junk, .junk, .junk, .junk, .junk, .junk, .junk, .junk, .junk, .junk, .junk, .junk, .junk, .junk, .junk, .junk, .junk, .junk, .junk, .junk, .junk, .junk, .junk, .junk, .junk, .junk, .junk, .junk, .junk, .junk, .junk, .junk, .junk, .junk, .junk, .junk, .junk, .junk, .junk]

abbrev L_spec_JoinColours_8_sp : List Slot := [.junk, .k (.int .i64), .k (.int .i64), .k .any, .junk, .junk, .k .any, .junk, .junk, .k .any, .k (.int .i64), .junk, .junk, .junk, .junk, .junk, .junk, .junk, .junk, .junk, .junk, .junk, .junk, .junk, .junk, .junk, .junk, .junk, .junk, .junk, .junk, .junk, .junk, .junk, .junk, .junk, .junk, .junk, .junk, .junk, .junk, .junk, .junk, .junk, .junk, .junk, .junk, .junk, .junk, .junk, .junk, .junk, .junk, .junk, .junk, .junk, .junk, .junk, .junk, .junk, .junk, .junk, .junk, .junk, .junk, .junk, .junk]
abbrev L_spec_JoinColours_8_ex : List (Nat × List Slot) := [(0, L_spec_JoinColours_8_e0)]
abbrev L_spec_JoinColours_8_rt : List Slot := [.junk, .junk, .junk, .junk, .junk, .junk, .junk, .junk, .junk, .junk, .junk, .junk, .junk, .junk, .junk, .junk, .junk, .junk, .junk, .junk, .junk, .junk, .junk, .junk, .junk, .junk, .junk, .junk, .junk, .junk, .junk, .junk, .junk, .junk, .junk, .junk, .junk, .junk, .junk, .junk, .junk, .junk, .junk, .junk, .junk, .junk, .junk, .junk, .junk, .junk, .junk, .junk, .junk, .junk, .junk, .junk, .junk, .junk, .junk, .junk, .junk, .junk, .junk, .junk, .junk, .junk, .junk]

def L_spec_JoinColours_8_b (Φ : Post) (u : (Int × Int × Value × Value)) (N : (Int × Int × Value × Value) → (Value × Int) → World → Prop) (s : (Value × Int)) (w : World) : Prop :=
  B_spec_JoinColours_8 u.1 u.2.1 u.2.2.1 u.2.2.2 s.1 s.2 N (fun v w => ∀ j : Nat → Value, Φ (.exit 0) (mkT j 0 L_spec_JoinColours_8_e0 v) w) w

theorem L_spec_JoinColours_8_eq (j : Nat → Value) (u : (Int × Int × Value × Value)) (s : (Value × Int)) (N : (Int × Int × Value × Value) → (Value × Int) → World → Prop) (D0 : (Value × Value × Value × Unit) → World → Prop) (R : (Unit) → World → Prop) (w : World) :
    W Try.prog ty (fun _ _ _ _ => False) (loopAt Try.f14 8) (loopPost L_spec_JoinColours_8_sp [(0, (⟨L_spec_JoinColours_8_e0, D0⟩ : Door))] ⟨L_spec_JoinColours_8_rt, R⟩ (fun v w => N ((fun v => (v.1, v.2.1, v.2.2.1, v.2.2.2.1)) v) ((fun v => (v.2.2.2.2.1, v.2.2.2.2.2.1)) v) w)) (mkT j 0 L_spec_JoinColours_8_sp ((fun u s => (u.1, u.2.1, u.2.2.1, u.2.2.2, s.1, s.2, ())) u s)) w =
    B_spec_JoinColours_8 u.1 u.2.1 u.2.2.1 u.2.2.2 s.1 s.2 N D0 w := by
  kernel_rfl

def O_spec_JoinColours_1 : Code → Post → List SV → World → Prop :=
  orc 8 (loopAt Try.f14 8) L_spec_JoinColours_8_sp (fun Φ fr w => LOOP (U := (Int × Int × Value × Value)) (S := (Value × Int)) ((fun v => (v.1, v.2.1, v.2.2.1, v.2.2.2.1)) (extT L_spec_JoinColours_8_sp fr)) (L_spec_JoinColours_8_b Φ ((fun v => (v.1, v.2.1, v.2.2.1, v.2.2.2.1)) (extT L_spec_JoinColours_8_sp fr))) ((fun v => (v.2.2.2.2.1, v.2.2.2.2.2.1)) (extT L_spec_JoinColours_8_sp fr)) w) (fun _ _ _ _ => False)

theorem O_spec_JoinColours_1_ok : Sound Try.prog O_spec_JoinColours_1 :=
  orc_ok (sound_none _) fun Φ fr w hs h => loop_ok (ty := ty) follows (sound_none _) L_spec_JoinColours_8_sp (fun v => (v.1, v.2.1, v.2.2.1, v.2.2.2.1)) (fun v => (v.2.2.2.2.1, v.2.2.2.2.2.1)) (fun u s => (u.1, u.2.1, u.2.2.1, u.2.2.2, s.1, s.2, ())) (fun _ => rfl) L_spec_JoinColours_8_ex L_spec_JoinColours_8_rt (body := L_spec_JoinColours_8_b Φ) (fun j u s w N hb => by
    have e := L_spec_JoinColours_8_eq j u s N (doorOf Φ (.exit 0) L_spec_JoinColours_8_e0).D (doorOf Φ .ret L_spec_JoinColours_8_rt).D w
    exact Eq.mpr e hb) hs h

def V_spec_JoinColours (x0 : Value) (c1 : Int) (d2 : Int) (w : World) (K : (Value × Int) → World → Prop) : Prop :=
  (Pr Try.prog (Instr.box 25 x0) w (.one .any) fun (x3_2 : Value) w_1 => (Pr Try.prog (Instr.alloc 25 true (.tuple #[])) w_1 (.one .any) fun (x6_4 : Value) w_3 => (QSub Try.prog (Instr.loadAt 25 x3_2) w_3 .any fun (x12_5 : Value) => (Fc Try.prog 42 #[x12_5, (.int .i64 c1), (.slice none 0 0)] w_3 (.one (.int .i64)) fun (x14_7 : Int) w_6 => (((x14_7 == (0 : Int)) = true → (QAll Try.prog (Instr.fieldAt 25 x3_2 1) .any fun (x21_8 : Value) => (QSub Try.prog (Instr.loadAt 2 x21_8) w_6 (.int .i64) fun (x22_9 : Int) => (Fc Try.prog 43 #[(.int .i64 d2), (.int .i64 (IntKind.i64.wrap (c1 + (1 : Int)))), (.int .i64 (IntKind.i64.wrap (x22_9 - (1 : Int))))] w_6 (.one .bool) fun (x24_11 : Bool) w_10 => (((!x24_11) = true → ((((2 : Int) != (0 : Int)) = true → (Pr Try.prog (Instr.build 25 #[]) w_10 (.one .any) fun (x29_13 : Value) w_12 => (PrU Try.prog (Instr.storeAt 25 x6_4 x29_13) w_12 fun w_14 => (QSub Try.prog (Instr.loadAt 25 x6_4) w_14 .any fun (r_16 : Value) => K ((r_16 : Value), (2 : Int)) w_14)))) ∧ (((2 : Int) != (0 : Int)) = false → (Pr Try.prog (Instr.buildSlice 31 0 #[]) w_10 (.one .any) fun (x31_18 : Value) w_17 => (At (loopAt Try.f14 8) (loopAt Try.f14 8) (LOOP (U := (Int × Int × Value × Value)) (S := (Value × Int)) (c1, d2, (x3_2 : Value), (x6_4 : Value)) (fun N_52 s_53 w_54 => B_spec_JoinColours_8 c1 d2 (x3_2 : Value) (x6_4 : Value) s_53.1 s_53.2 N_52 (fun (v_33 : (Value × Value × Value × Unit)) w_34 => ∀ _j_35 : Nat → Value, (QSub Try.prog (Instr.loadAt 25 v_33.1) w_34 .any fun (x59_36 : Value) => (Fc Try.prog 44 #[x59_36, v_33.2.2.1] w_34 (.one .any) fun (x61_38 : Value) w_37 => (Pr Try.prog (Instr.alloc 25 true (.tuple #[])) w_37 (.one .any) fun (out11_40 : Value) w_39 => (PrU Try.prog (Instr.storeAt 25 out11_40 x61_38) w_39 fun w_41 => (QAll Try.prog (Instr.fieldAt 25 out11_40 1) .any fun (x62_43 : Value) => (QSub Try.prog (Instr.loadAt 2 x62_43) w_41 (.int .i64) fun (x63_44 : Int) => (QAll Try.prog (Instr.fieldAt 25 out11_40 1) .any fun (x65_45 : Value) => (PrU Try.prog (Instr.storeAt 2 x65_45 (.int .i64 (IntKind.i64.wrap (x63_44 - (1 : Int))))) w_41 fun w_46 => (QSub Try.prog (Instr.loadAt 25 out11_40) w_46 .any fun (x66_48 : Value) => (PrU Try.prog (Instr.storeAt 25 v_33.2.1 x66_48) w_46 fun w_49 => (QSub Try.prog (Instr.loadAt 25 v_33.2.1) w_49 .any fun (r_51 : Value) => K ((r_51 : Value), (0 : Int)) w_49)))))))))))) w_54) ((x31_18 : Value), (0 : Int)) w_17)))))) ∧ ((!x24_11) = false → (((x14_7 != (0 : Int)) = true → (Pr Try.prog (Instr.build 25 #[]) w_10 (.one .any) fun (x29_56 : Value) w_55 => (PrU Try.prog (Instr.storeAt 25 x6_4 x29_56) w_55 fun w_57 => (QSub Try.prog (Instr.loadAt 25 x6_4) w_57 .any fun (r_59 : Value) => K ((r_59 : Value), x14_7) w_57)))) ∧ ((x14_7 != (0 : Int)) = false → (Pr Try.prog (Instr.buildSlice 31 0 #[]) w_10 (.one .any) fun (x31_61 : Value) w_60 => (At (loopAt Try.f14 8) (loopAt Try.f14 8) (LOOP (U := (Int × Int × Value × Value)) (S := (Value × Int)) (c1, d2, (x3_2 : Value), (x6_4 : Value)) (fun N_81 s_82 w_83 => B_spec_JoinColours_8 c1 d2 (x3_2 : Value) (x6_4 : Value) s_82.1 s_82.2 N_81 (fun (v_62 : (Value × Value × Value × Unit)) w_63 => ∀ _j_64 : Nat → Value, (QSub Try.prog (Instr.loadAt 25 v_62.1) w_63 .any fun (x59_65 : Value) => (Fc Try.prog 44 #[x59_65, v_62.2.2.1] w_63 (.one .any) fun (x61_67 : Value) w_66 => (Pr Try.prog (Instr.alloc 25 true (.tuple #[])) w_66 (.one .any) fun (out11_69 : Value) w_68 => (PrU Try.prog (Instr.storeAt 25 out11_69 x61_67) w_68 fun w_70 => (QAll Try.prog (Instr.fieldAt 25 out11_69 1) .any fun (x62_72 : Value) => (QSub Try.prog (Instr.loadAt 2 x62_72) w_70 (.int .i64) fun (x63_73 : Int) => (QAll Try.prog (Instr.fieldAt 25 out11_69 1) .any fun (x65_74 : Value) => (PrU Try.prog (Instr.storeAt 2 x65_74 (.int .i64 (IntKind.i64.wrap (x63_73 - (1 : Int))))) w_70 fun w_75 => (QSub Try.prog (Instr.loadAt 25 out11_69) w_75 .any fun (x66_77 : Value) => (PrU Try.prog (Instr.storeAt 25 v_62.2.1 x66_77) w_75 fun w_78 => (QSub Try.prog (Instr.loadAt 25 v_62.2.1) w_78 .any fun (r_80 : Value) => K ((r_80 : Value), (0 : Int)) w_78)))))))))))) w_83) ((x31_61 : Value), (0 : Int)) w_60))))))))))) ∧ ((x14_7 == (0 : Int)) = false → (((x14_7 != (0 : Int)) = true → (Pr Try.prog (Instr.build 25 #[]) w_6 (.one .any) fun (x29_85 : Value) w_84 => (PrU Try.prog (Instr.storeAt 25 x6_4 x29_85) w_84 fun w_86 => (QSub Try.prog (Instr.loadAt 25 x6_4) w_86 .any fun (r_88 : Value) => K ((r_88 : Value), x14_7) w_86)))) ∧ ((x14_7 != (0 : Int)) = false → (Pr Try.prog (Instr.buildSlice 31 0 #[]) w_6 (.one .any) fun (x31_90 : Value) w_89 => (At (loopAt Try.f14 8) (loopAt Try.f14 8) (LOOP (U := (Int × Int × Value × Value)) (S := (Value × Int)) (c1, d2, (x3_2 : Value), (x6_4 : Value)) (fun N_110 s_111 w_112 => B_spec_JoinColours_8 c1 d2 (x3_2 : Value) (x6_4 : Value) s_111.1 s_111.2 N_110 (fun (v_91 : (Value × Value × Value × Unit)) w_92 => ∀ _j_93 : Nat → Value, (QSub Try.prog (Instr.loadAt 25 v_91.1) w_92 .any fun (x59_94 : Value) => (Fc Try.prog 44 #[x59_94, v_91.2.2.1] w_92 (.one .any) fun (x61_96 : Value) w_95 => (Pr Try.prog (Instr.alloc 25 true (.tuple #[])) w_95 (.one .any) fun (out11_98 : Value) w_97 => (PrU Try.prog (Instr.storeAt 25 out11_98 x61_96) w_97 fun w_99 => (QAll Try.prog (Instr.fieldAt 25 out11_98 1) .any fun (x62_101 : Value) => (QSub Try.prog (Instr.loadAt 2 x62_101) w_99 (.int .i64) fun (x63_102 : Int) => (QAll Try.prog (Instr.fieldAt 25 out11_98 1) .any fun (x65_103 : Value) => (PrU Try.prog (Instr.storeAt 2 x65_103 (.int .i64 (IntKind.i64.wrap (x63_102 - (1 : Int))))) w_99 fun w_104 => (QSub Try.prog (Instr.loadAt 25 out11_98) w_104 .any fun (x66_106 : Value) => (PrU Try.prog (Instr.storeAt 25 v_91.2.1 x66_106) w_104 fun w_107 => (QSub Try.prog (Instr.loadAt 25 v_91.2.1) w_107 .any fun (r_109 : Value) => K ((r_109 : Value), (0 : Int)) w_107)))))))))))) w_112) ((x31_90 : Value), (0 : Int)) w_89)))))))))))

theorem eq_spec_JoinColours (x0 : Value) (c1 : Int) (d2 : Int) (w : World) (K : (Value × Int) → World → Prop) :
    W Try.prog ty O_spec_JoinColours_1 (bodyOf Try.f14) (fnPost Try.prog Try.f14.results.toList (.two .any (.int .i64)) K) (frame0 [x0, (.int .i64 c1), (.int .i64 d2)] 67) w = V_spec_JoinColours x0 c1 d2 w K := by
  kernel_rfl

theorem body_spec_JoinColours : Try.f14.body = some (bodyOf Try.f14) := by kernel_rfl
theorem name_spec_JoinColours : (Try.f14.name == "runtime.NumGoroutine") = false := by kernel_rfl

theorem walk_spec_JoinColours (x0 : Value) (c1 : Int) (d2 : Int) {w : World} {K : (Value × Int) → World → Prop} (h : V_spec_JoinColours x0 c1 d2 w K) : Fc Try.prog 14 #[x0, (.int .i64 c1), (.int .i64 d2)] w (.two .any (.int .i64)) K :=
  fn_ok follows O_spec_JoinColours_1_ok Try.func14 name_spec_JoinColours body_spec_JoinColours Try.ntmps14 [x0, (.int .i64 c1), (.int .i64 d2)] (Eq.mpr (eq_spec_JoinColours x0 c1 d2 w K) h)

-- uses S8Rec
theorem c_spec_JoinColours {x : Col} {c d : Int} {w : World} {K : Value × Int → World → Prop} (hx : x.Ok) (_ : I64 c) (_ : I64 d)
    (hK : ∀ w', Below w.heap.size w w' → (joinF x c d).1.Ok → K ((joinF x c d).1.val, (joinF x c d).2) w') : Fc Try.prog F_spec_JoinColours #[x.val, .int .i64 c, .int .i64 d] w (.two .any (.int .i64)) K := by
  have hK := fun w' hb => hK w' hb (joinF_ok hx c d)
  unfold joinF at hK
  refine walk_spec_JoinColours _ _ _ (col_box fun b1 w1 m1 ax => c_alloc fun p w2 q2 hv => col_all hx (ax.keep q2) (c_spec_l01Given hx (slI_nil w2) fun w3 q3 => ?_))
  have q1 := m1.below
  have hs1 := q1.size; have hs2 := q2.size; have hs3 := q3.size
  have ax3 := (ax.keep q2).keep q3
  have hv3 := hv.keep q3
  have q13 : Below w1.heap.size w1 w3 := q2.trans (q3.mono hs2)
  have nil : AllIn [] 0 (x.n - 1) := by simp [AllIn]
  by_cases hI : x.Is
  case neg =>
    rw [if_neg hI] at hK ⊢
    exact ⟨fun h => absurd (eq_t h) (by omega), fun _ => ⟨fun _ => c_none hv3 (by omega) fun w' q => hK w' (q1.trans ((q13.trans q).mono hs1)), fun h => absurd (ne_f h) (by omega)⟩⟩
  rw [if_pos hI] at hK ⊢
  have hk4 := hI.2.2.2.1; have hk1 := hI.2.2.1; have n0 := hI.1; have n1 := hI.2.1
  by_cases hc : 0 ≤ c ∧ c ≤ x.k - 1
  case neg =>
    rw [if_neg (fun h : JoinIs x c d => hc h.1)] at hK
    rw [if_neg (fun h => hc h.1)]
    exact ⟨fun h => absurd (eq_t h) (by omega), fun _ => ⟨fun _ => c_none hv3 (by omega) fun w' q => hK w' (q1.trans ((q13.trans q).mono hs1)), fun h => absurd (ne_f h) (by omega)⟩⟩
  rw [if_pos ⟨hc, nil⟩]
  refine ⟨fun _ => col_k ax3 ?_, fun h => absurd rfl (eq_f h)⟩
  rw [wrap_small (n := c + 1) (by omega) (by omega), wrap_small (n := x.k - 1) (by omega) (by omega)]
  refine c_spec_l01In _ _ _ ⟨fun h => ⟨fun _ => ?_, fun h => absurd (ne_f h) (by omega)⟩, fun h => ⟨fun h => absurd rfl (ne_t h), fun _ => ?_⟩⟩
  · rw [if_neg (fun hj : JoinIs x c d => notd_t h ⟨by have := hj.2.2; omega, hj.2.1.2⟩)] at hK
    exact c_none hv3 (by omega) fun w' q => hK w' (q1.trans ((q13.trans q).mono hs1))
  have hd := notd_f h
  have hJ : JoinIs x c d := ⟨hc, ⟨by omega, hd.2⟩, by omega⟩
  rw [if_pos hJ] at hK
  refine nilI fun b0 v0 w4 e0 q4 o4 => ?_
  have hgl : ∀ j : Nat, (List.range (j + 1)).map (fun i : Nat => joinG c d i) = (List.range j).map (fun i : Nat => joinG c d i) ++ [joinG c d j] := fun j => by simp [List.range_succ]
  refine lp (fun s w' => Below w3.heap.size w3 w' ∧ ∃ (j b : Nat), s.2 = j ∧ j ≤ x.k.toNat ∧ w3.heap.size ≤ b ∧ OwnI w' b s.1 ((List.range j).map fun i : Nat => joinG c d i)) (fun s _ => (17 - s.2).toNat) ⟨q4, 0, b0, rfl, by omega, by omega, o4⟩ ?_
  rintro ⟨v, t⟩ w5 N ⟨q5, j, b, hj, hjn, hb, ho⟩ hN
  simp only at hj ho
  subst hj
  unfold B_spec_JoinColours_8
  dsimp only
  have hs5 := q5.size
  refine col_k (ax3.keep q5) ⟨fun hlt => ?_, fun hge => ?_⟩
  · have hlt := dec_t hlt
    have go : ∀ y, y = joinG c d j → Pr Try.prog (Instr.buildSlice tSI 1 #[(0, .int .i64 y)]) w5 (.one .any) fun u w' => Pr Try.prog (Builtin.append_ #[tSI, tSI] tSI #[v, u]) w' (.one .any) fun z w' => N (c, d, ptr b1 0, p) (z, IntKind.i64.wrap ((j : Int) + 1)) w' := fun y hy => by
      refine appI ho (by simp; omega) fun v' w6 b' o6 m6 hb6 => ?_
      rw [wrap_small (by omega) (by omega)]
      refine hN _ _ ⟨q5.trans (m6.below (by omega) (by simp; omega)), j + 1, b', by simp only; omega, by omega, by omega, ?_⟩ (by simp only; omega)
      rw [hgl, ← hy]
      exact o6
    refine ⟨fun h => go _ ?_, fun h => ⟨fun h2 => go _ ?_, fun h2 => go _ ?_⟩⟩
    · have h := dec_t h
      unfold joinG
      rw [if_neg (by omega), if_neg (by omega)]
    · have h2 := eq_t h2
      unfold joinG
      rw [if_pos h2]
    · have h := dec_f h
      have h2 := eq_f h2
      rw [wrap_small (by omega) (by omega)]
      unfold joinG
      rw [if_neg h2, if_pos (by omega)]
  · have hge := dec_f hge
    intro _
    have : j = x.k.toNat := by omega
    subst this
    have hget : ∀ e, 0 ≤ e → e < x.k → ((List.range x.k.toNat).map fun i : Nat => joinG c d i).getD e.toNat 0 = joinG c d e := fun e e0 e1 => by
      have : e.toNat < x.k.toNat := by omega
      simp [this, Int.toNat_of_nonneg e0]
    have hrec : (recF x x.k fun e => ((List.range x.k.toNat).map fun i : Nat => joinG c d i).getD e.toNat 0) = recF x x.k (joinG c d) := colF_congr fun e he => by
      have := is_e hI hx he
      exact hget _ this.1 this.2
    refine col_all hx (ax3.keep q5) (c_spec_l01Turned hx hI (own_slI ho (by simp; omega)) (by simp; omega) (fun e e0 e1 => by rw [hget e e0 e1]; exact joinG_bd hJ hk4 e0 e1) fun w6 q6 => ?_)
    rw [hrec]
    have hok : ∀ k, I64 k → (recF x k (joinG c d)).Ok := fun k hk => recF_ok hx hk fun e he => joinG_bd hJ hk4 (is_e hI hx he).1 (is_e hI hx he).2
    have hs6 := q6.size
    refine allocA yC fun b7 w7 m7 => stA0 yC m7.at_ (hok x.k ⟨by omega, by omega⟩).cells_len (by rw [(hok x.k ⟨by omega, by omega⟩).cells_len]) (Col.cells_one _) fun w8 m8 s8 h8 => ?_
    have e7 := m7.here; have s7 := m7.size
    have hr8 : ColAt w8 (ptr b7 0) (recF x x.k (joinG c d)) := blk_row h8
    refine col_k (c := recF x x.k (joinG c d)) hr8 (fldp f1 (st yI h8 (by simp [Col.cells]) rfl fun w9 m9 s9 h9 => ?_))
    have hk' : (recF x x.k (joinG c d)).k = x.k := rfl
    rw [hk', wrap_small (n := x.k - 1) (by omega) (by omega)] at h9
    have h9 : BlkC w9 b7 (recF x (x.k - 1) (joinG c d)) := h9
    have q36 : Below w3.heap.size w3 w6 := q5.trans (q6.mono hs5)
    have hv9 : CVar w1.heap.size w9 p := (((hv3.keep q36).keep m7.below).mod m8 ((hv3.keep q36).ne (by omega))).mod m9 ((hv3.keep q36).ne (by omega))
    have q39 : Below w3.heap.size w3 w9 := ((q36.trans (m7.below.mono (by omega))).trans (m8.below (by omega) (by simp; omega))).trans (m9.below (by omega) (by simp; omega))
    exact col_all (hok _ ⟨by omega, by omega⟩) (blk_row h9) (c_ret (hok _ ⟨by omega, by omega⟩) hv9 (by have := q39.size; omega) fun w' q => hK w' (q1.trans (((q13.trans (q39.mono (by omega))).trans q).mono hs1)))

end Go.Proofs.Ytkadckhealbdaaa
