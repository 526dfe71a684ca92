/- Texts that the law FnExactFirstAvoiding needs, joined. No condition. -/
import Derived.Test.YtkadckhealbdaaaKFirstAvoiding2
set_option linter.all false
/- The reading of spec_l01Put, and its contract. No condition. -/
namespace Go.Proofs.Ytkadckhealbdaaa
open Go Go.RowKit Eng Mem
set_option linter.unusedVariables false
set_option maxRecDepth 100000
def B_spec_l01Put_3 (colours1 : Value) (x2 : Value) (x4 : Value) (i5 : Int) (N : (Value × Value × Value) → Int → World → Prop) (D0 : (Value × Value × Unit) → World → Prop) (w : World) : Prop :=
  (QAll Try.prog (Builtin.len_ #[31] 3 #[colours1]) (.int .i64) fun (x12_10 : Int) => (((decide (i5 < x12_10)) = true → (∀ w_11, Drew w w_11 → (QAll Try.prog (Instr.fieldAt 25 x2 0) .any fun (x17_12 : Value) => (QSub Try.prog (Instr.loadAt 2 x17_12) w_11 (.int .i64) fun (x18_13 : Int) => (QAll Try.prog (Instr.indexAt 31 colours1 (.int .i64 i5)) .any fun (x23_14 : Value) => (QSub Try.prog (Instr.loadAt 2 x23_14) w_11 (.int .i64) fun (x24_15 : Int) => (QAll Try.prog (convert 2 5 (.int .i64 x24_15)) (.int .u8) fun (x25_16 : Int) => (QAll Try.prog (Instr.fieldAt 25 x2 2) .any fun (x26_17 : Value) => (Fc Try.prog 128 #[(.int .i64 i5), (.int .i64 (IntKind.i64.wrap (x18_13 - (1 : Int))))] w_11 (.one (.int .i64)) fun (x20_19 : Int) w_18 => (Keeps w_11 w_18 ((QAll Try.prog (Instr.indexAt 22 x26_17 (.int .i64 x20_19)) .any fun (x27_20 : Value) => (PrU Try.prog (Instr.storeAt 5 x27_20 (.int .u8 x25_16)) w_18 fun w_21 => N ((colours1 : Value), (x2 : Value), (x4 : Value)) (IntKind.i64.wrap (i5 + (1 : Int))) w_21))))))))))))) ∧ ((decide (i5 < x12_10)) = false → D0 ((x2 : Value), (x4 : Value), ()) w)))

abbrev L_spec_l01Put_3_e0 : List Slot := [.junk, .junk, .k .any, .junk, .k .any, .junk, .junk, .junk, .junk, .junk, .junk, .junk, .junk, .junk, .junk, .junk, .junk, .junk, .junk, .junk, .junk, .junk, .junk, .junk, .junk, .junk, .junk, .junk, .junk]

abbrev L_spec_l01Put_3_sp : List Slot := [.junk, .k .any, .k .any, .junk, .k .any, .k (.int .i64), .junk, .junk, .junk, .junk, .junk, .junk, .junk, .junk, .junk, .junk, .junk, .junk, .junk, .junk, .junk, .junk, .junk, .junk, .junk, .junk, .junk, .junk, .junk]
abbrev L_spec_l01Put_3_ex : List (Nat × List Slot) := [(0, L_spec_l01Put_3_e0)]
abbrev L_spec_l01Put_3_rt : List Slot := [.junk, .junk, .junk, .junk, .junk, .junk, .junk, .junk, .junk, .junk, .junk, .junk, .junk, .junk, .junk, .junk, .junk, .junk, .junk, .junk, .junk, .junk, .junk, .junk, .junk, .junk, .junk, .junk, .junk]

def L_spec_l01Put_3_b (Φ : Post) (u : (Value × Value × Value)) (N : (Value × Value × Value) → Int → World → Prop) (s : Int) (w : World) : Prop :=
  B_spec_l01Put_3 u.1 u.2.1 u.2.2 s N (fun v w => ∀ j : Nat → Value, Φ (.exit 0) (mkT j 0 L_spec_l01Put_3_e0 v) w) w

theorem L_spec_l01Put_3_eq (j : Nat → Value) (u : (Value × Value × Value)) (s : Int) (N : (Value × Value × Value) → Int → World → Prop) (D0 : (Value × Value × Unit) → World → Prop) (R : (Unit) → World → Prop) (w : World) :
    W Try.prog ty (fun _ _ _ _ => False) (loopAt Try.f107 3) (loopPost L_spec_l01Put_3_sp [(0, (⟨L_spec_l01Put_3_e0, D0⟩ : Door))] ⟨L_spec_l01Put_3_rt, R⟩ (fun v w => N ((fun v => (v.1, v.2.1, v.2.2.1)) v) ((fun v => v.2.2.2.1) v) w)) (mkT j 0 L_spec_l01Put_3_sp ((fun u s => (u.1, u.2.1, u.2.2, s, ())) u s)) w =
    B_spec_l01Put_3 u.1 u.2.1 u.2.2 s N D0 w := by
  kernel_rfl

def O_spec_l01Put_1 : Code → Post → List SV → World → Prop :=
  orc 3 (loopAt Try.f107 3) L_spec_l01Put_3_sp (fun Φ fr w => LOOP (U := (Value × Value × Value)) (S := Int) ((fun v => (v.1, v.2.1, v.2.2.1)) (extT L_spec_l01Put_3_sp fr)) (L_spec_l01Put_3_b Φ ((fun v => (v.1, v.2.1, v.2.2.1)) (extT L_spec_l01Put_3_sp fr))) ((fun v => v.2.2.2.1) (extT L_spec_l01Put_3_sp fr)) w) (fun _ _ _ _ => False)

theorem O_spec_l01Put_1_ok : Sound Try.prog O_spec_l01Put_1 :=
  orc_ok (sound_none _) fun Φ fr w hs h => loop_ok (ty := ty) follows (sound_none _) L_spec_l01Put_3_sp (fun v => (v.1, v.2.1, v.2.2.1)) (fun v => v.2.2.2.1) (fun u s => (u.1, u.2.1, u.2.2, s, ())) (fun _ => rfl) L_spec_l01Put_3_ex L_spec_l01Put_3_rt (body := L_spec_l01Put_3_b Φ) (fun j u s w N hb => by
    have e := L_spec_l01Put_3_eq j u s N (doorOf Φ (.exit 0) L_spec_l01Put_3_e0).D (doorOf Φ .ret L_spec_l01Put_3_rt).D w
    exact Eq.mpr e hb) hs h

def V_spec_l01Put (x0 : Value) (colours1 : Value) (w : World) (K : Value → World → Prop) : Prop :=
  (Pr Try.prog (Instr.box 25 x0) w (.one .any) fun (x2_2 : Value) w_1 => (Pr Try.prog (Instr.alloc 25 true (.tuple #[])) w_1 (.one .any) fun (x4_4 : Value) w_3 => (QAll Try.prog (Instr.fieldAt 25 x2_2 0) .any fun (x6_5 : Value) => (QSub Try.prog (Instr.loadAt 2 x6_5) w_3 (.int .i64) fun (x7_6 : Int) => (QAll Try.prog (Instr.fieldAt 25 x2_2 0) .any fun (x9_7 : Value) => (PrU Try.prog (Instr.storeAt 2 x9_7 (.int .i64 (IntKind.i64.wrap (x7_6 + (1 : Int))))) w_3 fun w_8 => (At (loopAt Try.f107 3) (loopAt Try.f107 3) (LOOP (U := (Value × Value × Value)) (S := Int) ((colours1 : Value), (x2_2 : Value), (x4_4 : Value)) (fun N_30 s_31 w_32 => B_spec_l01Put_3 (colours1 : Value) (x2_2 : Value) (x4_4 : Value) s_31 N_30 (fun (v_23 : (Value × Value × Unit)) w_24 => ∀ _j_25 : Nat → Value, (QSub Try.prog (Instr.loadAt 25 v_23.1) w_24 .any fun (x28_26 : Value) => (PrU Try.prog (Instr.storeAt 25 v_23.2.1 x28_26) w_24 fun w_27 => (QSub Try.prog (Instr.loadAt 25 v_23.2.1) w_27 .any fun (r_29 : Value) => K (r_29 : Value) w_27)))) w_32) (0 : Int) w_8))))))))

theorem eq_spec_l01Put (x0 : Value) (colours1 : Value) (w : World) (K : Value → World → Prop) :
    W Try.prog ty O_spec_l01Put_1 (bodyOf Try.f107) (fnPost Try.prog Try.f107.results.toList (.one .any) K) (frame0 [x0, colours1] 29) w = V_spec_l01Put x0 colours1 w K := by
  kernel_rfl

theorem body_spec_l01Put : Try.f107.body = some (bodyOf Try.f107) := by kernel_rfl
theorem name_spec_l01Put : (Try.f107.name == "runtime.NumGoroutine") = false := by kernel_rfl

theorem walk_spec_l01Put (x0 : Value) (colours1 : Value) {w : World} {K : Value → World → Prop} (h : V_spec_l01Put x0 colours1 w K) : Fc Try.prog 107 #[x0, colours1] w (.one .any) K :=
  fn_ok follows O_spec_l01Put_1_ok Try.func107 name_spec_l01Put body_spec_l01Put Try.ntmps107 [x0, colours1] (Eq.mpr (eq_spec_l01Put x0 colours1 w K) h)

-- uses S8Rec
-- uses S9AvoS
theorem c_spec_l01Put {P k : Int} {es cs : List Int} {a : Value} {w : World} {K : Value → World → Prop} (P1 : 1 ≤ P) (P16 : P ≤ 16) (k0 : 0 ≤ k) (k4 : k ≤ 4) (hel : (es.length : Int) = edgesOf P) (hes : ∀ e ∈ es, 0 ≤ e ∧ e < k) (ha : SlI w a cs) (hcl : (cs.length : Int) = P) (hcs : ∀ e ∈ cs, 0 ≤ e ∧ e < k)
    (hK : ∀ w', Below w.heap.size w w' → K (colE (P + 1) k (es ++ cs)).val w') : Fc Try.prog F_spec_l01Put #[(colE P k es).val, a] w (.one .any) K := by
  have hed := edges_bd (n := P + 1) (by omega) (by omega)
  rw [edgesOf_succ] at hed
  have hed0 := edges_bd (n := P) (by omega) (by omega)
  have hbyte : ∀ e ∈ es ++ cs, 0 ≤ e ∧ e < 256 := fun e he => by
    rcases List.mem_append.1 he with he | he
    · have := hes e he; omega
    · have := hcs e he; omega
  refine walk_spec_l01Put _ _ (box (colE P k es).cells rfl fun b w1 m1 => c_alloc fun p w2 q2 hv => ?_)
  have e1 := m1.here; have s1 := m1.size; have hs2 := q2.size
  have q1 := m1.below
  have q12 := q1.trans (q2.mono q1.size)
  have h1 : BlkC w1 b (colE P k es) := m1.at_
  have h2 : BlkC w2 b (colE P k es) := below_at q2 h1 (at_lt h1)
  have hpne : p ≠ ptr b 0 := hv.ne' h1
  have hn : (colE P k es).n = P := rfl
  refine col_n (c := colE P k es) (blk_row h2) (fldp f0 (st yI h2 (by simp [Col.cells]) rfl fun w3 m3 s3 h3 => ?_))
  rw [hn, wrap_small (by omega) (by omega)] at h3
  have h3 : BlkC w3 b (colE (P + 1) k (es ++ cs.take 0)) := by
    rw [List.take_zero, List.append_nil]; exact h3
  have q3 : Below w.heap.size w w3 := q12.trans (m3.below (by omega) (by simp; omega))
  have hv3 := hv.mod m3 hpne
  refine lp (fun s w' => ∃ i : Nat, s = i ∧ i ≤ cs.length ∧ Below w.heap.size w w' ∧ CVar w1.heap.size w' p ∧ BlkC w' b (colE (P + 1) k (es ++ cs.take i))) (fun s _ => (17 - s).toNat) ⟨0, rfl, by omega, q3, hv3, h3⟩ ?_
  rintro t w4 N ⟨i, hi, hil, q4, hv4, h4⟩ hN
  subst hi
  unfold B_spec_l01Put_3
  refine lenI (ha.keep q4) ⟨fun hlt => ?_, fun hge => ?_⟩
  · have hlt := dec_t hlt
    intro w5 hd5
    have b45 := hd5.below w4.heap.size
    have q5 := q4.trans (hd5.below w.heap.size)
    have h5 : BlkC w5 b (colE (P + 1) k (es ++ cs.take i)) := below_at b45 h4 (at_lt h4)
    have hil' : i < cs.length := by omega
    have htk : cs.take (i + 1) = cs.take i ++ [cs.getD i 0] := by rw [List.take_succ_eq_append_getElem hil']; simp [hil']
    have hcb := hcs (cs.getD i 0) (by
      have e : cs.getD i 0 = cs[i] := by simp [List.getD, hil']
      rw [e]; exact List.getElem_mem hil')
    have hn1 : (colE (P + 1) k (es ++ cs.take i)).n = P + 1 := rfl
    refine col_n (c := colE (P + 1) k (es ++ cs.take i)) (blk_row h5) (atI (ha.keep q5) (by omega) hlt ?_)
    rw [hn1, Int.toNat_natCast, wrap_small (n := P + 1 - 1) (by omega) (by omega), show P + 1 - 1 = P from by omega]
    refine int_u8 hcb.1 (by omega) (fldp f2 (c_spec_l01Edge (by omega) (by omega) (by omega) (by omega) ⟨Below.refl _ _, ?_⟩))
    have hnum : num (i : Int) P = edgesOf P + i := by rw [num_of (by omega), enum_eq]
    rw [hnum]
    have hlen : (es ++ cs.take i).length = (edgesOf P + i).toNat := by simp; omega
    refine put_e (n := P + 1) (k := k) (es := padE (es ++ cs.take i)) h5 (padE_len (by omega)) (by omega) (by omega) fun w6 m6 s6 h6 => ?_
    rw [← hlen, padE_put (by omega), List.append_assoc, ← htk] at h6
    rw [wrap_small (by omega) (by omega)]
    exact hN _ _ ⟨i + 1, by omega, by omega, q5.trans (m6.below q5.size (by simp; omega)), (hv4.keep b45).mod m6 hpne, h6⟩ (by omega)
  · have hge := dec_f hge
    have : i = cs.length := by omega
    subst this
    rw [List.take_length] at h4
    intro _
    have hok : (colE (P + 1) k (es ++ cs)).Ok := colE_ok ⟨by omega, by omega⟩ ⟨by omega, by omega⟩ (by simp; omega) hbyte
    have hz := q4.size
    exact col_all hok (blk_row h4) (c_ret hok (hv4.mono (B' := w.heap.size) (by omega)) hz fun w5 q5 => hK w5 (q4.trans q5))

end Go.Proofs.Ytkadckhealbdaaa

/- The reading of spec_l01Own, and its contract. No condition. -/
namespace Go.Proofs.Ytkadckhealbdaaa
open Go Go.RowKit Eng Mem
set_option linter.unusedVariables false
set_option maxRecDepth 100000
def V_spec_l01Own (list0 : Value) (w : World) (K : Value → World → Prop) : Prop :=
  (Pr Try.prog (Instr.buildSlice 31 0 #[]) w (.one .any) fun (x3_2 : Value) w_1 => (Pr Try.prog (Builtin.append_ #[31, 31] 31 #[x3_2, list0]) w_1 (.one .any) fun (x5_4 : Value) w_3 => K (x5_4 : Value) w_3))

theorem eq_spec_l01Own (list0 : Value) (w : World) (K : Value → World → Prop) :
    W Try.prog ty (fun _ _ _ _ => False) (bodyOf Try.f90) (fnPost Try.prog Try.f90.results.toList (.one .any) K) (frame0 [list0] 6) w = V_spec_l01Own list0 w K := by
  kernel_rfl

theorem body_spec_l01Own : Try.f90.body = some (bodyOf Try.f90) := by kernel_rfl
theorem name_spec_l01Own : (Try.f90.name == "runtime.NumGoroutine") = false := by kernel_rfl

theorem walk_spec_l01Own (list0 : Value) {w : World} {K : Value → World → Prop} (h : V_spec_l01Own list0 w K) : Fc Try.prog 90 #[list0] w (.one .any) K :=
  fn_ok follows (sound_none _) Try.func90 name_spec_l01Own body_spec_l01Own Try.ntmps90 [list0] (Eq.mpr (eq_spec_l01Own list0 w K) h)

-- uses S2Sl
theorem c_spec_l01Own {a : Value} {l : List Int} {w : World} {K : Value → World → Prop} (h : SlI w a l) (hl : l.length ≤ 1099511627776) (hK : ∀ w' v b, w.heap.size ≤ b → Below w.heap.size w w' → OwnI w' b v l → K v w') :
    Fc Try.prog F_spec_l01Own #[a] w (.one .any) K := by
  refine walk_spec_l01Own _ (nilI fun b v w1 hb hbel ho => appsI ho (h.keep hbel) (by simpa using hl) fun v' w' b' o m hb' => ?_)
  have hs := hbel.size
  rw [List.nil_append] at o
  exact hK w' v' b' (by omega) (hbel.trans (m.below (by omega) (by simp; omega))) o

end Go.Proofs.Ytkadckhealbdaaa

/- The reading of spec_l05Search, and its contract. No condition. -/
namespace Go.Proofs.Ytkadckhealbdaaa
open Go Go.RowKit Eng Mem
set_option linter.unusedVariables false
set_option maxRecDepth 100000
def B_spec_l05Search_6 (sizes1 : Value) (colours2 : Value) (sets3 : Value) (most4 : Int) (x5 : Value) (n11 : Int) (out12 : Value) (c13 : Int) (N : (Value × Value × Value × Int × Value × Int) → (Value × Int) → World → Prop) (D0 : (Value × Unit) → World → Prop) (w : World) : Prop :=
  (QAll Try.prog (Instr.fieldAt 25 x5 1) .any fun (x25_10 : Value) => (QSub Try.prog (Instr.loadAt 2 x25_10) w (.int .i64) fun (x26_11 : Int) => (((decide (c13 < x26_11)) = true → (QAll Try.prog (Builtin.len_ #[68] 3 #[out12]) (.int .i64) fun (x30_12 : Int) => (((decide (x30_12 < most4)) = true → (∀ w_13, Drew w w_13 → (QAll Try.prog (Instr.indexAt 31 sizes1 (.int .i64 c13)) .any fun (x38_14 : Value) => (QSub Try.prog (Instr.loadAt 2 x38_14) w_13 (.int .i64) fun (x39_15 : Int) => (((decide (x39_15 < (2 : Int))) = true → N ((sizes1 : Value), (colours2 : Value), (sets3 : Value), most4, (x5 : Value), n11) ((out12 : Value), (IntKind.i64.wrap (c13 + (1 : Int)))) w_13) ∧ ((decide (x39_15 < (2 : Int))) = false → (QSub Try.prog (Instr.loadAt 25 x5) w_13 .any fun (x42_16 : Value) => (QAll Try.prog (Instr.indexAt 31 sets3 (.int .i64 c13)) .any fun (x46_17 : Value) => (QSub Try.prog (Instr.loadAt 2 x46_17) w_13 (.int .i64) fun (x47_18 : Int) => (QSub Try.prog (Instr.loadAt 25 x5) w_13 .any fun (x48_19 : Value) => (QAll Try.prog (Instr.indexAt 31 sizes1 (.int .i64 c13)) .any fun (x55_20 : Value) => (QSub Try.prog (Instr.loadAt 2 x55_20) w_13 (.int .i64) fun (x56_21 : Int) => (Fc Try.prog 117 #[x48_19, (.int .i64 n11), (.int .i64 c13)] w_13 (.one (.int .i64)) fun (x51_23 : Int) w_22 => (Keeps w_13 w_22 ((Fc Try.prog 105 #[x42_16, (.int .i64 c13), (.int .i64 (IntKind.i64.wrap ((BitVec.toNat (BitVec.ofInt (IntKind.bits .i64) x47_18 &&& BitVec.ofInt (IntKind.bits .i64) x51_23) : Nat)))), (.int .i64 (IntKind.i64.wrap (x56_21 - (2 : Int))))] w_22 (.one .bool) fun (x58_25 : Bool) w_24 => (Keeps w_13 w_24 (((x58_25 = true → N ((sizes1 : Value), (colours2 : Value), (sets3 : Value), most4, (x5 : Value), n11) ((out12 : Value), (IntKind.i64.wrap (c13 + (1 : Int)))) w_24) ∧ (x58_25 = false → (Fc Try.prog 90 #[sets3] w_24 (.one .any) fun (x61_27 : Value) w_26 => (QAll Try.prog (Instr.indexAt 31 x61_27 (.int .i64 c13)) .any fun (x66_28 : Value) => (QSub Try.prog (Instr.loadAt 2 x66_28) w_26 (.int .i64) fun (x67_29 : Int) => (QAll Try.prog (convert 2 102 (.int .i64 n11)) (.int .u64) fun (x69_30 : Int) => (0 ≤ x69_30 ∧ (QAll Try.prog (Instr.indexAt 31 x61_27 (.int .i64 c13)) .any fun (x72_31 : Value) => (PrU Try.prog (Instr.storeAt 2 x72_31 (.int .i64 (IntKind.i64.wrap ((BitVec.toNat (BitVec.ofInt (IntKind.bits .i64) x67_29 ||| BitVec.ofInt (IntKind.bits .i64) (IntKind.i64.wrap ((1 : Int) * 2 ^ min (Int.toNat x69_30) 64))) : Nat))))) w_26 fun w_32 => (∀ w_34, Drew w_32 w_34 → (QSub Try.prog (Instr.loadAt 25 x5) w_34 .any fun (x74_35 : Value) => (QAll Try.prog (Builtin.len_ #[68] 3 #[out12]) (.int .i64) fun (x84_36 : Int) => ((Fc Try.prog 90 #[colours2] w_34 (.one .any) fun (x77_38 : Value) w_37 => (Keeps w_34 w_37 ((Pr Try.prog (Instr.buildSlice 31 1 #[(0, (.int .i64 c13))]) w_37 (.one .any) fun (x79_40 : Value) w_39 => (Keeps w_34 w_39 ((Pr Try.prog (Builtin.append_ #[31, 31] 31 #[x77_38, x79_40]) w_39 (.one .any) fun (x80_42 : Value) w_41 => (Keeps w_34 w_41 ((Fc Try.prog 127 #[x74_35, sizes1, x80_42, x61_27, (.int .i64 (IntKind.i64.wrap (most4 - x84_36)))] w_41 (.one .any) fun (x86_44 : Value) w_43 => (Pr Try.prog (Builtin.append_ #[68, 68] 68 #[out12, x86_44]) w_43 (.one .any) fun (x87_46 : Value) w_45 => N ((sizes1 : Value), (colours2 : Value), (sets3 : Value), most4, (x5 : Value), n11) ((x87_46 : Value), (IntKind.i64.wrap (c13 + (1 : Int)))) w_45))))))))))) ∧ (Pr Try.prog (Instr.buildSlice 31 1 #[(0, (.int .i64 c13))]) w_34 (.one .any) fun (x79_48 : Value) w_47 => (Keeps w_34 w_47 ((Fc Try.prog 90 #[colours2] w_47 (.one .any) fun (x77_50 : Value) w_49 => (Keeps w_34 w_49 ((Pr Try.prog (Builtin.append_ #[31, 31] 31 #[x77_50, x79_48]) w_49 (.one .any) fun (x80_52 : Value) w_51 => (Keeps w_34 w_51 ((Fc Try.prog 127 #[x74_35, sizes1, x80_52, x61_27, (.int .i64 (IntKind.i64.wrap (most4 - x84_36)))] w_51 (.one .any) fun (x86_54 : Value) w_53 => (Pr Try.prog (Builtin.append_ #[68, 68] 68 #[out12, x86_54]) w_53 (.one .any) fun (x87_56 : Value) w_55 => N ((sizes1 : Value), (colours2 : Value), (sets3 : Value), most4, (x5 : Value), n11) ((x87_56 : Value), (IntKind.i64.wrap (c13 + (1 : Int)))) w_55)))))))))))))))))))))))))))))))))))))))))) ∧ ((decide (x30_12 < most4)) = false → D0 ((out12 : Value), ()) w)))) ∧ ((decide (c13 < x26_11)) = false → D0 ((out12 : Value), ()) w))))

abbrev L_spec_l05Search_6_e0 : List Slot := [.junk, .junk, .junk, .junk, .junk, .junk, .junk, .junk, .junk, .junk, .junk, .junk, .k .any, .junk, .junk, .junk, .junk, .junk, .junk, .junk, .junk, .junk, .junk, .junk, .junk, .junk, .junk, .junk, .junk, .junk, .junk, .junk, .junk, .junk, .junk, .junk, .junk, .junk, .junk, .junk, .junk, .junk, .junk, .junk, .junk, .junk, .junk, .junk, .junk, .junk, .junk, .junk, .junk, .junk, .junk, .junk, .junk, .junk, .junk, .junk, .junk, .junk, .junk, .junk, .junk, .junk, .junk, .junk, .junk, .junk, .junk, .junk, .junk, .junk, .junk, .junk, .junk, .junk, .junk, .junk, .junk, .junk, .junk, .junk, .junk, .junk, .junk, .junk, .junk]

abbrev L_spec_l05Search_6_sp : List Slot := [.junk, .k .any, .k .any, .k .any, .k (.int .i64), .k .any, .junk, .junk, .junk, .junk, .junk, .k (.int .i64), .k .any, .k (.int .i64), .junk, .junk, .junk, .junk, .junk, .junk, .junk, .junk, .junk, .junk, .junk, .junk, .junk, .junk, .junk, .junk, .junk, .junk, .junk, .junk, .junk, .junk, .junk, .junk, .junk, .junk, .junk, .junk, .junk, .junk, .junk, .junk, .junk, .junk, .junk, .junk, .junk, .junk, .junk, .junk, .junk, .junk, .junk, .junk, .junk, .junk, .junk, .junk, .junk, .junk, .junk, .junk, .junk, .junk, .junk, .junk, .junk, .junk, .junk, .junk, .junk, .junk, .junk, .junk, .junk, .junk, .junk, .junk, .junk, .junk, .junk, .junk, .junk, .junk, .junk]
abbrev L_spec_l05Search_6_ex : List (Nat × List Slot) := [(0, L_spec_l05Search_6_e0)]
abbrev L_spec_l05Search_6_rt : List Slot := [.junk, .junk, .junk, .junk, .junk, .junk, .junk, .junk, .junk, .junk, .junk, .junk, .junk, .junk, .junk, .junk, .junk, .junk, .junk, .junk, .junk, .junk, .junk, .junk, .junk, .junk, .junk, .junk, .junk, .junk, .junk, .junk, .junk, .junk, .junk, .junk, .junk, .junk, .junk, .junk, .junk, .junk, .junk, .junk, .junk, .junk, .junk, .junk, .junk, .junk, .junk, .junk, .junk, .junk, .junk, .junk, .junk, .junk, .junk, .junk, .junk, .junk, .junk, .junk, .junk, .junk, .junk, .junk, .junk, .junk, .junk, .junk, .junk, .junk, .junk, .junk, .junk, .junk, .junk, .junk, .junk, .junk, .junk, .junk, .junk, .junk, .junk, .junk, .junk]

def L_spec_l05Search_6_b (Φ : Post) (u : (Value × Value × Value × Int × Value × Int)) (N : (Value × Value × Value × Int × Value × Int) → (Value × Int) → World → Prop) (s : (Value × Int)) (w : World) : Prop :=
  B_spec_l05Search_6 u.1 u.2.1 u.2.2.1 u.2.2.2.1 u.2.2.2.2.1 u.2.2.2.2.2 s.1 s.2 N (fun v w => ∀ j : Nat → Value, Φ (.exit 0) (mkT j 0 L_spec_l05Search_6_e0 v) w) w

theorem L_spec_l05Search_6_eq (j : Nat → Value) (u : (Value × Value × Value × Int × Value × Int)) (s : (Value × Int)) (N : (Value × Value × Value × Int × Value × Int) → (Value × Int) → World → Prop) (D0 : (Value × Unit) → World → Prop) (R : (Unit) → World → Prop) (w : World) :
    W Try.prog ty (fun _ _ _ _ => False) (loopAt Try.f127 6) (loopPost L_spec_l05Search_6_sp [(0, (⟨L_spec_l05Search_6_e0, D0⟩ : Door))] ⟨L_spec_l05Search_6_rt, R⟩ (fun v w => N ((fun v => (v.1, v.2.1, v.2.2.1, v.2.2.2.1, v.2.2.2.2.1, v.2.2.2.2.2.1)) v) ((fun v => (v.2.2.2.2.2.2.1, v.2.2.2.2.2.2.2.1)) v) w)) (mkT j 0 L_spec_l05Search_6_sp ((fun u s => (u.1, u.2.1, u.2.2.1, u.2.2.2.1, u.2.2.2.2.1, u.2.2.2.2.2, s.1, s.2, ())) u s)) w =
    B_spec_l05Search_6 u.1 u.2.1 u.2.2.1 u.2.2.2.1 u.2.2.2.2.1 u.2.2.2.2.2 s.1 s.2 N D0 w := by
  kernel_rfl

def O_spec_l05Search_1 : Code → Post → List SV → World → Prop :=
  orc 6 (loopAt Try.f127 6) L_spec_l05Search_6_sp (fun Φ fr w => LOOP (U := (Value × Value × Value × Int × Value × Int)) (S := (Value × Int)) ((fun v => (v.1, v.2.1, v.2.2.1, v.2.2.2.1, v.2.2.2.2.1, v.2.2.2.2.2.1)) (extT L_spec_l05Search_6_sp fr)) (L_spec_l05Search_6_b Φ ((fun v => (v.1, v.2.1, v.2.2.1, v.2.2.2.1, v.2.2.2.2.1, v.2.2.2.2.2.1)) (extT L_spec_l05Search_6_sp fr))) ((fun v => (v.2.2.2.2.2.2.1, v.2.2.2.2.2.2.2.1)) (extT L_spec_l05Search_6_sp fr)) w) (fun _ _ _ _ => False)

theorem O_spec_l05Search_1_ok : Sound Try.prog O_spec_l05Search_1 :=
  orc_ok (sound_none _) fun Φ fr w hs h => loop_ok (ty := ty) follows (sound_none _) L_spec_l05Search_6_sp (fun v => (v.1, v.2.1, v.2.2.1, v.2.2.2.1, v.2.2.2.2.1, v.2.2.2.2.2.1)) (fun v => (v.2.2.2.2.2.2.1, v.2.2.2.2.2.2.2.1)) (fun u s => (u.1, u.2.1, u.2.2.1, u.2.2.2.1, u.2.2.2.2.1, u.2.2.2.2.2, s.1, s.2, ())) (fun _ => rfl) L_spec_l05Search_6_ex L_spec_l05Search_6_rt (body := L_spec_l05Search_6_b Φ) (fun j u s w N hb => by
    have e := L_spec_l05Search_6_eq j u s N (doorOf Φ (.exit 0) L_spec_l05Search_6_e0).D (doorOf Φ .ret L_spec_l05Search_6_rt).D w
    exact Eq.mpr e hb) hs h

def V_spec_l05Search (x0 : Value) (sizes1 : Value) (colours2 : Value) (sets3 : Value) (most4 : Int) (w : World) (K : Value → World → Prop) : Prop :=
  (Pr Try.prog (Instr.box 25 x0) w (.one .any) fun (x5_2 : Value) w_1 => (QAll Try.prog (Builtin.len_ #[31] 3 #[colours2]) (.int .i64) fun (x16_3 : Int) => (QAll Try.prog (Instr.fieldAt 25 x5_2 0) .any fun (x18_4 : Value) => (QSub Try.prog (Instr.loadAt 2 x18_4) w_1 (.int .i64) fun (x19_5 : Int) => (((x16_3 == x19_5) = true → (Pr Try.prog (Instr.buildSlice 68 1 #[(0, colours2)]) w_1 (.one .any) fun (x22_7 : Value) w_6 => K (x22_7 : Value) w_6)) ∧ ((x16_3 == x19_5) = false → (Pr Try.prog (Instr.buildSlice 68 0 #[]) w_1 (.one .any) fun (x23_9 : Value) w_8 => (At (loopAt Try.f127 6) (loopAt Try.f127 6) (LOOP (U := (Value × Value × Value × Int × Value × Int)) (S := (Value × Int)) ((sizes1 : Value), (colours2 : Value), (sets3 : Value), most4, (x5_2 : Value), x16_3) (fun N_60 s_61 w_62 => B_spec_l05Search_6 (sizes1 : Value) (colours2 : Value) (sets3 : Value) most4 (x5_2 : Value) x16_3 s_61.1 s_61.2 N_60 (fun (v_57 : (Value × Unit)) w_58 => ∀ _j_59 : Nat → Value, K (v_57.1 : Value) w_58) w_62) ((x23_9 : Value), (0 : Int)) w_8)))))))))

theorem eq_spec_l05Search (x0 : Value) (sizes1 : Value) (colours2 : Value) (sets3 : Value) (most4 : Int) (w : World) (K : Value → World → Prop) :
    W Try.prog ty O_spec_l05Search_1 (bodyOf Try.f127) (fnPost Try.prog Try.f127.results.toList (.one .any) K) (frame0 [x0, sizes1, colours2, sets3, (.int .i64 most4)] 89) w = V_spec_l05Search x0 sizes1 colours2 sets3 most4 w K := by
  kernel_rfl

theorem body_spec_l05Search : Try.f127.body = some (bodyOf Try.f127) := by kernel_rfl
theorem name_spec_l05Search : (Try.f127.name == "runtime.NumGoroutine") = false := by kernel_rfl

theorem walk_spec_l05Search (x0 : Value) (sizes1 : Value) (colours2 : Value) (sets3 : Value) (most4 : Int) {w : World} {K : Value → World → Prop} (h : V_spec_l05Search x0 sizes1 colours2 sets3 most4 w K) : Fc Try.prog 127 #[x0, sizes1, colours2, sets3, (.int .i64 most4)] w (.one .any) K :=
  fn_ok follows O_spec_l05Search_1_ok Try.func127 name_spec_l05Search body_spec_l05Search Try.ntmps127 [x0, sizes1, colours2, sets3, (.int .i64 most4)] (Eq.mpr (eq_spec_l05Search x0 sizes1 colours2 sets3 most4 w K) h)

-- uses S9AvoS
theorem c_spec_l05Search {P k : Int} {l es : List Int} {a : Value} (P1 : 1 ≤ P) (P16 : P ≤ 16) (hk : k = l.length) (k4 : k ≤ 4) (hl : AllIn l 1 17) (hel : (es.length : Int) = edgesOf P) (hes : ∀ e ∈ es, 0 ≤ e ∧ e < k) :
    ∀ (f : Nat) (cs : List Int) (cv sv : Value) (cb : Nat) (sets : List Int) (most B : Nat) (w : World) (K : Value → World → Prop), cs.length + f = P.toNat → B ≤ w.heap.size → B ≤ cb → OwnI w cb cv cs → SlI w sv sets → (sets.length : Int) = k → (∀ c : Nat, (c : Int) < k → sets.getD c 0 = (setN cs c : Nat)) → SlI w a l → (∀ e ∈ cs, 0 ≤ e ∧ e < k) →
      (extE l l.length f (es ++ cs)).length < most → most ≤ 1073741824 →
      (∀ u w' b rs, w.heap.size ≤ b → Below w.heap.size w w' → MySS B b w' u rs → extE l l.length f (es ++ cs) = rs.map (es ++ ·) → K u w') →
      Fc Try.prog F_spec_l05Search #[(colE P k es).val, a, cv, sv, .int .i64 (most : Int)] w (.one .any) K
  | f, cs, cv, sv, cb, sets, most, B, w, K, hlen, hB, hcb, hcv, hsv, hsl, hsets, ha, hcs, hmost, hm30, hK => by
    have hed0 := edges_bd (n := P) (by omega) (by omega)
    have hok : (colE P k es).Ok := colE_ok ⟨by omega, by omega⟩ ⟨by omega, by omega⟩ (by omega) fun e he => by have := hes e he; omega
    have hP : (colE P k es).n = P := rfl
    have hkk : (colE P k es).k = k := rfl
    have hcsl : cs.length ≤ 16 := by omega
    refine walk_spec_l05Search _ _ _ _ _ (col_box fun bx w1 m1 ax => ?_)
    have q1 := m1.below
    have hs1 := q1.size
    have hcv1 := hcv.keep q1
    refine lenI (own_slI hcv1 (by omega)) (col_n ax ⟨fun he => ?_, fun hne => ?_⟩)
    · have he := eq_t he
      rw [hP] at he
      have hf : f = 0 := by omega
      subst hf
      exact oneSS (B := B) hcv1 hcb fun u w' b hb q h => hK u w' b [cs] (by omega) (q1.trans (q.mono hs1)) h rfl
    have hne := eq_f hne
    rw [hP] at hne
    match f, hlen, hmost, hK with
    | 0, hlen, _, _ => omega
    | f + 1, hlen, hmost, hK =>
    rw [extE_succ] at hmost hK
    obtain ⟨i, hi⟩ : ∃ i : Int, (cs.length : Int) = i := ⟨_, rfl⟩
    have i0 : 0 ≤ i := by omega
    have iP : i < P := by omega
    have hlen2 : (es ++ cs).length = (enum i P).toNat := by rw [enum_eq]; simp; omega
    have hpair := pair_enum i0 iP (by omega)
    rw [← hlen2] at hpair
    have hstep : ∀ c : Nat, c < l.length → extR l l.length f (es ++ cs) c = (if okE l (es ++ cs) i P c then extE l l.length f (es ++ (cs ++ [(c : Int)])) else []) ++ extR l l.length f (es ++ cs) (c + 1) := fun c hc => by
      rw [extR_step l l.length f (es ++ cs) hc, hpair.1, hpair.2, ← List.append_assoc]
    refine nilSS fun b0 v0 w2 hb0 q2 _ h0 => ?_
    have q02 := q1.trans (q2.mono hs1)
    refine lp (fun s w' => Below w1.heap.size w1 w' ∧ ∃ (c b : Nat) (rs : List (List Int)), s.2 = c ∧ c ≤ l.length ∧ w1.heap.size ≤ b ∧ MySS B b w' s.1 rs ∧ rs.map (es ++ ·) ++ extR l l.length f (es ++ cs) c = extR l l.length f (es ++ cs) 0) (fun s _ => (17 - s.2).toNat) ⟨q2, 0, b0, [], rfl, by omega, hb0, h0.mono (by omega), rfl⟩ ?_
    rintro ⟨out, t⟩ w3 N ⟨q3, c, b, rs, hc, hcl, hb, hout, hR⟩ hN
    simp only at hc hout
    subst hc
    unfold B_spec_l05Search_6
    dsimp only
    have hlenR := congrArg List.length hR
    simp only [List.length_append, List.length_map] at hlenR
    rw [hi]
    refine col_k (ax.keep q3) ⟨fun hlt => hout.len_eq ⟨fun _ => ?_, fun h => absurd (by omega) (dec_f h)⟩, fun hge => ?_⟩
    · have hlt : (c : Int) < k := dec_t hlt
      have hcN : c < l.length := by omega
      intro w4 hd4
      have q4 := q3.trans (hd4.below w1.heap.size)
      have q04 := q1.trans (q4.mono hs1)
      have hin := hl.get (i := c) hcN
      have hsc := hstep c hcN
      have skip : ∀ w', Below w1.heap.size w1 w' → MySS B b w' out rs → okE l (es ++ cs) i P c = false → N (a, cv, sv, (most : Int), ptr bx 0, i) (out, IntKind.i64.wrap ((c : Int) + 1)) w' := fun w' q o hno => by
        rw [wrap_small (by omega) (by omega), ← hi]
        rw [hno] at hsc
        simp only [Bool.false_eq_true, if_false, List.nil_append] at hsc
        exact hN _ _ ⟨q, c + 1, b, rs, by simp only; omega, by omega, hb, o, by rw [← hsc]; exact hR⟩ (by simp only; omega)
      have b34 := hd4.below w3.heap.size
      refine atI (ha.keep q04) (by omega) (by omega) ?_
      rw [Int.toNat_natCast]
      refine ⟨fun h2 => skip w4 q4 (hout.keep b34) (ok_two (by rw [Int.toNat_natCast]; exact dec_t h2)), fun h2 => ?_⟩
      have h2 := dec_f h2
      refine col_all hok (ax.keep q4) (atI (hsv.keep q04) (by omega) (by omega) (col_all hok (ax.keep q4) (atI (ha.keep q04) (by omega) (by omega) ?_)))
      rw [Int.toNat_natCast, hsets c hlt]
      have hset := bitsN_lt (fun p => decide (cs.getD p 0 = (c : Int))) cs.length
      have hset : setN cs c < 2 ^ cs.length := hset
      have h17 : 2 ^ cs.length ≤ 2 ^ 16 := Nat.pow_le_pow_right (by omega) hcsl
      have hP17 : 2 ^ P.toNat ≤ 2 ^ 16 := Nat.pow_le_pow_right (by omega) (by omega)
      refine c_spec_l01Around hok i0 (by omega) (by rw [hP]; omega) fun w5 q5 => ⟨q5, ?_⟩
      rw [hP]
      have hbl := bitsN_lt (fun p => joinB (colE P k es) i p c) P.toNat
      rw [wand (by omega) (by omega) (by omega) (by omega), Int.toNat_natCast, Int.toNat_natCast]
      obtain ⟨m, hm⟩ : ∃ m : Nat, l.getD c 0 - 2 = m := ⟨(l.getD c 0 - 2).toNat, by omega⟩
      rw [hm, wrap_small (n := (m : Int)) (by omega) (by omega)]
      refine c_spec_l03Clique (x := colE P k es) (c := (c : Int)) hok (by rw [hP]; omega) (by rw [hP]; omega) m _ w5 _ (by rw [hP]; exact Nat.lt_of_le_of_lt Nat.and_le_right hbl) (by omega) fun w6 q6 => ?_
      have hspec := ok_spec (P := P) (k := k) (i := i) (c := (c : Int)) (l := l) (es := es) (cs := cs) i0 iP P16 hel hi
      rw [Int.toNat_natCast, show (l.getD c 0 - 2).toNat = m from by omega] at hspec
      rw [hP, hspec]
      have q46 := q5.trans (q6.mono q5.size)
      refine ⟨q46, fun hno => ?_, fun hyes => ?_⟩
      · have hno := not_t hno
        exact skip w6 (q4.trans (q46.mono q4.size)) (hout.keep (b34.trans (q46.mono b34.size))) hno
      have hyes := not_f hyes
      rw [hyes] at hsc
      simp only [if_true] at hsc
      have q06 := q04.trans (q46.mono q04.size)
      have q16 := q4.trans (q46.mono q4.size)
      have b36 := b34.trans (q46.mono b34.size)
      refine c_spec_l01Own (hsv.keep q06) (by omega) fun w7 ov ob hob q7 ho7 => atI (own_slI ho7 (by omega)) (by omega) (by omega) ?_
      rw [Int.toNat_natCast, hsets c hlt]
      refine int_u64 i0 (by omega) ⟨i0, ?_⟩
      have hwb := wbor (u := setN cs c) (j := cs.length) (by omega) (by omega)
      rw [hi] at hwb
      rw [hwb]
      refine putI ho7 (by omega) (by omega) fun w8 m8 s8 ho8 => ?_
      rw [Int.toNat_natCast] at ho8
      intro w9 hd9
      have hs6 := q06.size; have hs7 := q7.size; have hs16 := q16.size
      have b68 : Below w6.heap.size w6 w8 := q7.trans (m8.below (by omega) (by simp; omega))
      have b89 := hd9.below w8.heap.size
      have b69 := b68.trans (hd9.below w6.heap.size)
      have q09 := q06.trans (b69.mono hs6)
      have q19 := q16.trans (b69.mono hs16)
      have b39 := b36.trans (b69.mono b36.size)
      have ho9 : OwnI w9 ob ov _ := ho8.keep b89
      have ax9 := ax.keep q19
      have hout9 := hout.keep b39
      have hcv9 := hcv.keep q09
      have hsets' : ∀ d : Nat, (d : Int) < k → (sets.set c ((setN cs c ||| 2 ^ cs.length : Nat) : Int)).getD d 0 = (setN (cs ++ [(c : Int)]) d : Nat) := fun d hd => by
        rw [setN_app]
        by_cases hcd : c = d
        · subst hcd
          rw [if_pos rfl]
          simp [List.getD, show c < sets.length by omega]
        · rw [if_neg (by omega), List.getD_eq_getElem?_getD, List.getElem?_set_ne hcd, ← List.getD_eq_getElem?_getD]
          exact hsets d hd
      have hz9 := q09.size; have hz19 := q19.size
      -- the recursion, and what follows
      have fin : ∀ (cv' : Value) (cb' : Nat) (w' : World), Below w9.heap.size w9 w' → B ≤ cb' → OwnI w' cb' cv' (cs ++ [(c : Int)]) →
          Fc Try.prog F_spec_l05Search #[(colE P k es).val, a, cv', ov, .int .i64 (IntKind.i64.wrap ((most : Int) - rs.length))] w' (.one .any) fun x86 w43 => Pr Try.prog (Builtin.append_ #[tSSI, tSSI] tSSI #[out, x86]) w43 (.one .any) fun x87 w45 => N (a, cv, sv, (most : Int), ptr bx 0, i) (x87, IntKind.i64.wrap ((c : Int) + 1)) w45 := fun cv' cb' w' q hcb' ho' => by
        have q0' := q09.trans (q.mono hz9)
        have hX := congrArg List.length hsc
        simp only [List.length_append] at hX
        rw [wrap_small (by omega) (by omega), show (most : Int) - rs.length = ((most - rs.length : Nat) : Int) from by omega]
        refine c_spec_l05Search P1 P16 hk k4 hl hel hes f (cs ++ [(c : Int)]) cv' ov cb' _ (most - rs.length) B w' _ (by simp; omega) (by have := q0'.size; omega) hcb' ho' (own_slI (ho9.keep q) (by simp; omega)) (by simp; omega) hsets' (ha.keep q0') (fun e he => by
          rcases List.mem_append.1 he with he | he
          · exact hcs e he
          · simp at he; omega) (by omega) (by omega) fun y w'' b' rs' hb' q' hy hyr => ?_
        have q2' := q.trans (q'.mono q.size)
        refine appsSS (hout9.keep q2') hy (by
          have := congrArg List.length hyr
          rw [List.length_map] at this
          omega) fun u' w6' b6 hu' m6' hb6 => ?_
        rw [wrap_small (by omega) (by omega), ← hi]
        have q1'' := q19.trans (q2'.mono hz19)
        have hzz := q1''.size
        refine hN _ _ ⟨q1''.trans (m6'.below (by omega) (by simp; omega)), c + 1, b6, rs ++ rs', by simp only; omega, by omega, by have := q2'.size; omega, hu', ?_⟩ (by simp only; omega)
        rw [List.map_append, ← hyr, List.append_assoc, ← hsc]
        exact hR
      refine col_all hok ax9 (hout9.len_eq ⟨?_, ?_⟩)
      · refine c_spec_l01Own (own_slI hcv9 (by omega)) (by omega) fun w10 x cx hcx q10 hx => ⟨q10, ?_⟩
        have hz10 := q10.size
        refine mk1 ySI rfl fun b11 w11 n11 o11 => ⟨q10.trans (n11.below.mono hz10), ?_⟩
        have hz11 := n11.below.size
        refine app ySI 1 (hx.keep n11.below) o11.sl (by simp) (iv_one [(c : Int)]) (by omega) fun y w12 b12 o12 m12 hb12 => ?_
        have q12 : Below w9.heap.size w9 w12 := (q10.trans (n11.below.mono hz10)).trans (m12.below (by omega) (by simp; omega))
        refine ⟨q12, fin y b12 w12 q12 (by omega) ?_⟩
        unfold OwnI
        rw [List.length_append, iv, List.map_append]
        exact o12
      · refine mk1 ySI rfl fun b10 w10 n10 o10 => ⟨n10.below, c_spec_l01Own ((own_slI hcv9 (by omega)).keep n10.below) (by omega) fun w11 x cx hcx q11 hx => ?_⟩
        have hz10 := n10.below.size
        have q911 := n10.below.trans (q11.mono hz10)
        have hz11 := q911.size
        refine ⟨q911, app ySI 1 hx (o10.keep q11).sl (by simp) (iv_one [(c : Int)]) (by omega) fun y w12 b12 o12 m12 hb12 => ?_⟩
        have q12 : Below w9.heap.size w9 w12 := q911.trans (m12.below (by omega) (by simp; omega))
        refine ⟨q12, fin y b12 w12 q12 (by omega) ?_⟩
        unfold OwnI
        rw [List.length_append, iv, List.map_append]
        exact o12
    · have hge : ¬ (c : Int) < k := dec_f hge
      have : c = l.length := by omega
      subst this
      rw [extR_end, List.append_nil] at hR
      intro _
      exact hK out w3 b rs (by omega) (q1.trans (q3.mono hs1)) hout hR.symm

end Go.Proofs.Ytkadckhealbdaaa

/- The reading of spec_l05All, and its contract. No condition. -/
namespace Go.Proofs.Ytkadckhealbdaaa
open Go Go.RowKit Eng Mem
set_option linter.unusedVariables false
set_option maxRecDepth 100000
def B_spec_l05All_2 (sizes1 : Value) (most2 : Int) (x3 : Value) (c7 : Int) (N : (Value × Int × Value) → Int → World → Prop) (D0 : (Value × Int × Value × Unit) → World → Prop) (R : (Value × Unit) → World → Prop) (w : World) : Prop :=
  (QAll Try.prog (Builtin.len_ #[31] 3 #[sizes1]) (.int .i64) fun (x10_3 : Int) => (((decide (c7 < x10_3)) = true → (QAll Try.prog (Instr.indexAt 31 sizes1 (.int .i64 c7)) .any fun (x16_4 : Value) => (QSub Try.prog (Instr.loadAt 2 x16_4) w (.int .i64) fun (x17_5 : Int) => (((x17_5 == (1 : Int)) = true → (Pr Try.prog (Instr.buildSlice 68 0 #[]) w (.one .any) fun (x19_7 : Value) w_6 => R ((x19_7 : Value), ()) w_6)) ∧ ((x17_5 == (1 : Int)) = false → N ((sizes1 : Value), most2, (x3 : Value)) (IntKind.i64.wrap (c7 + (1 : Int))) w))))) ∧ ((decide (c7 < x10_3)) = false → D0 ((sizes1 : Value), most2, (x3 : Value), ()) w)))

abbrev L_spec_l05All_2_e0 : List Slot := [.junk, .k .any, .k (.int .i64), .k .any, .junk, .junk, .junk, .junk, .junk, .junk, .junk, .junk, .junk, .junk, .junk, .junk, .junk, .junk, .junk, .junk, .junk, .junk, .junk, .junk, .junk, .junk, .junk, .junk]

abbrev L_spec_l05All_2_sp : List Slot := [.junk, .k .any, .k (.int .i64), .k .any, .junk, .junk, .junk, .k (.int .i64), .junk, .junk, .junk, .junk, .junk, .junk, .junk, .junk, .junk, .junk, .junk, .junk, .junk, .junk, .junk, .junk, .junk, .junk, .junk, .junk]
abbrev L_spec_l05All_2_ex : List (Nat × List Slot) := [(0, L_spec_l05All_2_e0)]
abbrev L_spec_l05All_2_rt : List Slot := [.junk, .junk, .junk, .junk, .junk, .junk, .k .any, .junk, .junk, .junk, .junk, .junk, .junk, .junk, .junk, .junk, .junk, .junk, .junk, .junk, .junk, .junk, .junk, .junk, .junk, .junk, .junk, .junk]

def L_spec_l05All_2_b (Φ : Post) (u : (Value × Int × Value)) (N : (Value × Int × Value) → Int → World → Prop) (s : Int) (w : World) : Prop :=
  B_spec_l05All_2 u.1 u.2.1 u.2.2 s N (fun v w => ∀ j : Nat → Value, Φ (.exit 0) (mkT j 0 L_spec_l05All_2_e0 v) w) (fun v w => ∀ j : Nat → Value, Φ .ret (mkT j 0 L_spec_l05All_2_rt v) w) w

theorem L_spec_l05All_2_eq (j : Nat → Value) (u : (Value × Int × Value)) (s : Int) (N : (Value × Int × Value) → Int → World → Prop) (D0 : (Value × Int × Value × Unit) → World → Prop) (R : (Value × Unit) → World → Prop) (w : World) :
    W Try.prog ty (fun _ _ _ _ => False) (loopAt Try.f106 2) (loopPost L_spec_l05All_2_sp [(0, (⟨L_spec_l05All_2_e0, D0⟩ : Door))] ⟨L_spec_l05All_2_rt, R⟩ (fun v w => N ((fun v => (v.1, v.2.1, v.2.2.1)) v) ((fun v => v.2.2.2.1) v) w)) (mkT j 0 L_spec_l05All_2_sp ((fun u s => (u.1, u.2.1, u.2.2, s, ())) u s)) w =
    B_spec_l05All_2 u.1 u.2.1 u.2.2 s N D0 R w := by
  kernel_rfl

def O_spec_l05All_1 : Code → Post → List SV → World → Prop :=
  orc 2 (loopAt Try.f106 2) L_spec_l05All_2_sp (fun Φ fr w => LOOP (U := (Value × Int × Value)) (S := Int) ((fun v => (v.1, v.2.1, v.2.2.1)) (extT L_spec_l05All_2_sp fr)) (L_spec_l05All_2_b Φ ((fun v => (v.1, v.2.1, v.2.2.1)) (extT L_spec_l05All_2_sp fr))) ((fun v => v.2.2.2.1) (extT L_spec_l05All_2_sp fr)) w) (fun _ _ _ _ => False)

theorem O_spec_l05All_1_ok : Sound Try.prog O_spec_l05All_1 :=
  orc_ok (sound_none _) fun Φ fr w hs h => loop_ok (ty := ty) follows (sound_none _) L_spec_l05All_2_sp (fun v => (v.1, v.2.1, v.2.2.1)) (fun v => v.2.2.2.1) (fun u s => (u.1, u.2.1, u.2.2, s, ())) (fun _ => rfl) L_spec_l05All_2_ex L_spec_l05All_2_rt (body := L_spec_l05All_2_b Φ) (fun j u s w N hb => by
    have e := L_spec_l05All_2_eq j u s N (doorOf Φ (.exit 0) L_spec_l05All_2_e0).D (doorOf Φ .ret L_spec_l05All_2_rt).D w
    exact Eq.mpr e hb) hs h

def V_spec_l05All (x0 : Value) (sizes1 : Value) (most2 : Int) (w : World) (K : Value → World → Prop) : Prop :=
  (Pr Try.prog (Instr.box 25 x0) w (.one .any) fun (x3_2 : Value) w_1 => (At (loopAt Try.f106 2) (loopAt Try.f106 2) (LOOP (U := (Value × Int × Value)) (S := Int) ((sizes1 : Value), most2, (x3_2 : Value)) (fun N_30 s_31 w_32 => B_spec_l05All_2 (sizes1 : Value) most2 (x3_2 : Value) s_31 N_30 (fun (v_8 : (Value × Int × Value × Unit)) w_9 => ∀ _j_10 : Nat → Value, (∀ w_11, Drew w_9 w_11 → (QSub Try.prog (Instr.loadAt 25 v_8.2.2.1) w_11 .any fun (x20_12 : Value) => (QAll Try.prog (Instr.fieldAt 25 v_8.2.2.1 1) .any fun (x23_13 : Value) => (QSub Try.prog (Instr.loadAt 2 x23_13) w_11 (.int .i64) fun (x24_14 : Int) => ((Pr Try.prog (Instr.buildSlice 31 0 #[]) w_11 (.one .any) fun (x22_16 : Value) w_15 => (Keeps w_11 w_15 ((Pr Try.prog (Instr.makeSlice 31 (.int .i64 x24_14) (.int .i64 x24_14)) w_15 (.one .any) fun (x25_18 : Value) w_17 => (Keeps w_11 w_17 ((Fc Try.prog 127 #[x20_12, v_8.1, x22_16, x25_18, (.int .i64 v_8.2.1)] w_17 (.one .any) fun (x27_20 : Value) w_19 => (Keeps w_11 w_19 (K (x27_20 : Value) w_19))))))))) ∧ (Pr Try.prog (Instr.makeSlice 31 (.int .i64 x24_14) (.int .i64 x24_14)) w_11 (.one .any) fun (x25_22 : Value) w_21 => (Keeps w_11 w_21 ((Pr Try.prog (Instr.buildSlice 31 0 #[]) w_21 (.one .any) fun (x22_24 : Value) w_23 => (Keeps w_11 w_23 ((Fc Try.prog 127 #[x20_12, v_8.1, x22_24, x25_22, (.int .i64 v_8.2.1)] w_23 (.one .any) fun (x27_26 : Value) w_25 => (Keeps w_11 w_25 (K (x27_26 : Value) w_25))))))))))))))) (fun (v_27 : (Value × Unit)) w_28 => ∀ _j_29 : Nat → Value, K (v_27.1 : Value) w_28) w_32) (0 : Int) w_1)))

theorem eq_spec_l05All (x0 : Value) (sizes1 : Value) (most2 : Int) (w : World) (K : Value → World → Prop) :
    W Try.prog ty O_spec_l05All_1 (bodyOf Try.f106) (fnPost Try.prog Try.f106.results.toList (.one .any) K) (frame0 [x0, sizes1, (.int .i64 most2)] 28) w = V_spec_l05All x0 sizes1 most2 w K := by
  kernel_rfl

theorem body_spec_l05All : Try.f106.body = some (bodyOf Try.f106) := by kernel_rfl
theorem name_spec_l05All : (Try.f106.name == "runtime.NumGoroutine") = false := by kernel_rfl

theorem walk_spec_l05All (x0 : Value) (sizes1 : Value) (most2 : Int) {w : World} {K : Value → World → Prop} (h : V_spec_l05All x0 sizes1 most2 w K) : Fc Try.prog 106 #[x0, sizes1, (.int .i64 most2)] w (.one .any) K :=
  fn_ok follows O_spec_l05All_1_ok Try.func106 name_spec_l05All body_spec_l05All Try.ntmps106 [x0, sizes1, (.int .i64 most2)] (Eq.mpr (eq_spec_l05All x0 sizes1 most2 w K) h)

-- uses S9AvoS
theorem c_spec_l05All {P k : Int} {l es : List Int} {a : Value} {w : World} {K : Value → World → Prop} (P1 : 1 ≤ P) (P16 : P ≤ 16) (hk : k = l.length) (k4 : k ≤ 4) (hl : AllIn l 1 17) (hno : (1 : Int) ∉ l) (hel : (es.length : Int) = edgesOf P) (hes : ∀ e ∈ es, 0 ≤ e ∧ e < k) (ha : SlI w a l)
    (hmost : (extE l l.length P.toNat es).length < 1048576)
    (hK : ∀ u w' b rs, w.heap.size ≤ b → Below w.heap.size w w' → MySS w.heap.size b w' u rs → extE l l.length P.toNat es = rs.map (es ++ ·) → K u w') : Fc Try.prog F_spec_l05All #[(colE P k es).val, a, .int .i64 1048576] w (.one .any) K := by
  have hed0 := edges_bd (n := P) (by omega) (by omega)
  have hok : (colE P k es).Ok := colE_ok ⟨by omega, by omega⟩ ⟨by omega, by omega⟩ (by omega) fun e he => by have := hes e he; omega
  refine walk_spec_l05All _ _ _ (col_box fun bx w1 m1 ax => ?_)
  have q1 := m1.below
  have hs1 := q1.size
  have hll := ha.len
  refine lp (fun s w' => w' = w1 ∧ ∃ c : Nat, s = c ∧ c ≤ l.length) (fun s _ => (l.length - s).toNat) ⟨rfl, 0, rfl, by omega⟩ ?_
  rintro t w2 N ⟨rfl, c, hc, hcl⟩ hN
  subst hc
  unfold B_spec_l05All_2
  refine lenI (ha.keep q1) ⟨fun hlt => ?_, fun hge => ?_⟩
  · have hlt := dec_t hlt
    refine atI (ha.keep q1) (by omega) hlt ⟨fun h => ?_, fun h => ?_⟩
    · have h := eq_t h
      rw [Int.toNat_natCast] at h
      have hcl' : c < l.length := by omega
      have e : l.getD c 0 = l[c] := by simp [List.getD, hcl']
      exact absurd (by rw [← h, e]; exact List.getElem_mem hcl') hno
    · rw [wrap_small (by omega) (by omega)]
      exact hN _ _ ⟨rfl, c + 1, by omega, by omega⟩ (by omega)
  · intro _ w3 hd3
    try dsimp only
    have q3 := q1.trans (hd3.below w.heap.size)
    have b13 := hd3.below w2.heap.size
    have hs3 := q3.size
    have ax3 := ax.keep b13
    have hkk : (colE P k es).k = k := rfl
    have hz : ∀ c : Nat, (c : Int) < k → (List.replicate k.toNat (0 : Int)).getD c 0 = (setN [] c : Nat) := fun c hc => by
      simp [List.getD, setN, bitsN, show c < k.toNat by omega]
    refine col_all hok ax3 (col_k ax3 ?_)
    rw [hkk]
    refine ⟨nilI fun b0 v0 w4 e0 q4 o0 => ⟨q4, mkI (by omega) (by omega) fun b1 v1 w5 m5 o5 => ?_⟩, mkI (by omega) (by omega) fun b1 v1 w4 m4 o4 => ⟨m4.below, nilI fun b0 v0 w5 e0 q5 o0 => ?_⟩⟩
    · have q35 := q4.trans (m5.below.mono q4.size)
      have q5 := q3.trans (q35.mono hs3)
      have hz5 := q35.size
      refine ⟨q35, ?_⟩
      have hS := fun K' => c_spec_l05Search P1 P16 hk k4 hl hel hes P.toNat [] v0 v1 b0 _ 1048576 w.heap.size w5 K' (by simp) q5.size (by omega) (o0.keep m5.below) (own_slI o5 (by simp; omega)) (by simp; omega) hz (ha.keep q5) (by simp) (by rw [List.append_nil]; exact hmost) (by omega)
      rw [show (((1048576 : Nat) : Int)) = 1048576 from rfl, List.append_nil] at hS
      refine hS _ fun u w6 b rs hb q6 hu hr => ⟨q35.trans (q6.mono hz5), hK u w6 b rs (by have := q5.size; omega) (q5.trans (q6.mono q5.size)) hu hr⟩
    · have q35 := m4.below.trans (q5.mono m4.below.size)
      have q5' := q3.trans (q35.mono hs3)
      have hz5 := q35.size
      have hz4 := m4.below.size
      refine ⟨q35, ?_⟩
      have hS := fun K' => c_spec_l05Search P1 P16 hk k4 hl hel hes P.toNat [] v0 v1 b0 _ 1048576 w.heap.size w5 K' (by simp) q5'.size (by omega) o0 (own_slI (o4.keep q5) (by simp; omega)) (by simp; omega) hz (ha.keep q5') (by simp) (by rw [List.append_nil]; exact hmost) (by omega)
      rw [show (((1048576 : Nat) : Int)) = 1048576 from rfl, List.append_nil] at hS
      refine hS _ fun u w6 b rs hb q6 hu hr => ⟨q35.trans (q6.mono hz5), hK u w6 b rs (by have := q5'.size; omega) (q5'.trans (q6.mono q5'.size)) hu hr⟩

end Go.Proofs.Ytkadckhealbdaaa

/- The reading of spec_l05First, and its contract. No condition. -/
namespace Go.Proofs.Ytkadckhealbdaaa
open Go Go.RowKit Eng Mem
set_option linter.unusedVariables false
set_option maxRecDepth 100000
def B_spec_l05First_5 (n1 : Int) (sizes2 : Value) (x3 : Value) (x6 : Value) (all8 : Value) (i9 : Int) (N : (Int × Value × Value × Value × Value) → Int → World → Prop) (D0 : (Value × Unit) → World → Prop) (R : (Value × Bool × Unit) → World → Prop) (w : World) : Prop :=
  (QAll Try.prog (Builtin.len_ #[68] 3 #[all8]) (.int .i64) fun (x22_14 : Int) => (((decide (i9 < x22_14)) = true → (∀ w_15, Drew w w_15 → (QSub Try.prog (Instr.loadAt 25 x3) w_15 .any fun (x27_16 : Value) => (QAll Try.prog (Instr.indexAt 68 all8 (.int .i64 i9)) .any fun (x30_17 : Value) => (QSub Try.prog (Instr.loadAt 31 x30_17) w_15 .any fun (x31_18 : Value) => ((Fc Try.prog 107 #[x27_16, x31_18] w_15 (.one .any) fun (x32_20 : Value) w_19 => ((Fc Try.prog 82 #[x32_20, (.int .i64 n1), sizes2] w_19 (.two .any .bool) fun (x35_22 : Value × Bool) w_21 => (Pr Try.prog (Instr.alloc 25 true (.tuple #[])) w_21 (.one .any) fun (out10_24 : Value) w_23 => (PrU Try.prog (Instr.storeAt 25 out10_24 x35_22.1) w_23 fun w_25 => ((x35_22.2 = true → (QSub Try.prog (Instr.loadAt 25 out10_24) w_25 .any fun (x39_27 : Value) => (PrU Try.prog (Instr.storeAt 25 x6 x39_27) w_25 fun w_28 => R ((x6 : Value), true, ()) w_28))) ∧ (x35_22.2 = false → N (n1, (sizes2 : Value), (x3 : Value), (x6 : Value), (all8 : Value)) (IntKind.i64.wrap (i9 + (1 : Int))) w_25))))) ∧ (Pr Try.prog (Instr.alloc 25 true (.tuple #[])) w_19 (.one .any) fun (out10_31 : Value) w_30 => (Fc Try.prog 82 #[x32_20, (.int .i64 n1), sizes2] w_30 (.two .any .bool) fun (x35_33 : Value × Bool) w_32 => (PrU Try.prog (Instr.storeAt 25 out10_31 x35_33.1) w_32 fun w_34 => ((x35_33.2 = true → (QSub Try.prog (Instr.loadAt 25 out10_31) w_34 .any fun (x39_36 : Value) => (PrU Try.prog (Instr.storeAt 25 x6 x39_36) w_34 fun w_37 => R ((x6 : Value), true, ()) w_37))) ∧ (x35_33.2 = false → N (n1, (sizes2 : Value), (x3 : Value), (x6 : Value), (all8 : Value)) (IntKind.i64.wrap (i9 + (1 : Int))) w_34))))))) ∧ (Pr Try.prog (Instr.alloc 25 true (.tuple #[])) w_15 (.one .any) fun (out10_40 : Value) w_39 => (Keeps w_15 w_39 ((Fc Try.prog 107 #[x27_16, x31_18] w_39 (.one .any) fun (x32_42 : Value) w_41 => (Fc Try.prog 82 #[x32_42, (.int .i64 n1), sizes2] w_41 (.two .any .bool) fun (x35_44 : Value × Bool) w_43 => (PrU Try.prog (Instr.storeAt 25 out10_40 x35_44.1) w_43 fun w_45 => ((x35_44.2 = true → (QSub Try.prog (Instr.loadAt 25 out10_40) w_45 .any fun (x39_47 : Value) => (PrU Try.prog (Instr.storeAt 25 x6 x39_47) w_45 fun w_48 => R ((x6 : Value), true, ()) w_48))) ∧ (x35_44.2 = false → N (n1, (sizes2 : Value), (x3 : Value), (x6 : Value), (all8 : Value)) (IntKind.i64.wrap (i9 + (1 : Int))) w_45)))))))))))))) ∧ ((decide (i9 < x22_14)) = false → D0 ((x6 : Value), ()) w)))

abbrev L_spec_l05First_5_e0 : List Slot := [.junk, .junk, .junk, .junk, .junk, .junk, .k .any, .junk, .junk, .junk, .junk, .junk, .junk, .junk, .junk, .junk, .junk, .junk, .junk, .junk, .junk, .junk, .junk, .junk, .junk, .junk, .junk, .junk, .junk, .junk, .junk, .junk, .junk, .junk, .junk, .junk, .junk, .junk, .junk, .junk, .junk]

abbrev L_spec_l05First_5_sp : List Slot := [.junk, .k (.int .i64), .k .any, .k .any, .junk, .junk, .k .any, .junk, .k .any, .k (.int .i64), .junk, .junk, .junk, .junk, .junk, .junk, .junk, .junk, .junk, .junk, .junk, .junk, .junk, .junk, .junk, .junk, .junk, .junk, .junk, .junk, .junk, .junk, .junk, .junk, .junk, .junk, .junk, .junk, .junk, .junk, .junk]
abbrev L_spec_l05First_5_ex : List (Nat × List Slot) := [(0, L_spec_l05First_5_e0)]
abbrev L_spec_l05First_5_rt : List Slot := [.junk, .junk, .junk, .junk, .junk, .junk, .k .any, .k .bool, .junk, .junk, .junk, .junk, .junk, .junk, .junk, .junk, .junk, .junk, .junk, .junk, .junk, .junk, .junk, .junk, .junk, .junk, .junk, .junk, .junk, .junk, .junk, .junk, .junk, .junk, .junk, .junk, .junk, .junk, .junk, .junk, .junk]

def L_spec_l05First_5_b (Φ : Post) (u : (Int × Value × Value × Value × Value)) (N : (Int × Value × Value × Value × Value) → Int → World → Prop) (s : Int) (w : World) : Prop :=
  B_spec_l05First_5 u.1 u.2.1 u.2.2.1 u.2.2.2.1 u.2.2.2.2 s N (fun v w => ∀ j : Nat → Value, Φ (.exit 0) (mkT j 0 L_spec_l05First_5_e0 v) w) (fun v w => ∀ j : Nat → Value, Φ .ret (mkT j 0 L_spec_l05First_5_rt v) w) w

theorem L_spec_l05First_5_eq (j : Nat → Value) (u : (Int × Value × Value × Value × Value)) (s : Int) (N : (Int × Value × Value × Value × Value) → Int → World → Prop) (D0 : (Value × Unit) → World → Prop) (R : (Value × Bool × Unit) → World → Prop) (w : World) :
    W Try.prog ty (fun _ _ _ _ => False) (loopAt Try.f82 5) (loopPost L_spec_l05First_5_sp [(0, (⟨L_spec_l05First_5_e0, D0⟩ : Door))] ⟨L_spec_l05First_5_rt, R⟩ (fun v w => N ((fun v => (v.1, v.2.1, v.2.2.1, v.2.2.2.1, v.2.2.2.2.1)) v) ((fun v => v.2.2.2.2.2.1) v) w)) (mkT j 0 L_spec_l05First_5_sp ((fun u s => (u.1, u.2.1, u.2.2.1, u.2.2.2.1, u.2.2.2.2, s, ())) u s)) w =
    B_spec_l05First_5 u.1 u.2.1 u.2.2.1 u.2.2.2.1 u.2.2.2.2 s N D0 R w := by
  kernel_rfl

def O_spec_l05First_1 : Code → Post → List SV → World → Prop :=
  orc 5 (loopAt Try.f82 5) L_spec_l05First_5_sp (fun Φ fr w => LOOP (U := (Int × Value × Value × Value × Value)) (S := Int) ((fun v => (v.1, v.2.1, v.2.2.1, v.2.2.2.1, v.2.2.2.2.1)) (extT L_spec_l05First_5_sp fr)) (L_spec_l05First_5_b Φ ((fun v => (v.1, v.2.1, v.2.2.1, v.2.2.2.1, v.2.2.2.2.1)) (extT L_spec_l05First_5_sp fr))) ((fun v => v.2.2.2.2.2.1) (extT L_spec_l05First_5_sp fr)) w) (fun _ _ _ _ => False)

theorem O_spec_l05First_1_ok : Sound Try.prog O_spec_l05First_1 :=
  orc_ok (sound_none _) fun Φ fr w hs h => loop_ok (ty := ty) follows (sound_none _) L_spec_l05First_5_sp (fun v => (v.1, v.2.1, v.2.2.1, v.2.2.2.1, v.2.2.2.2.1)) (fun v => v.2.2.2.2.2.1) (fun u s => (u.1, u.2.1, u.2.2.1, u.2.2.2.1, u.2.2.2.2, s, ())) (fun _ => rfl) L_spec_l05First_5_ex L_spec_l05First_5_rt (body := L_spec_l05First_5_b Φ) (fun j u s w N hb => by
    have e := L_spec_l05First_5_eq j u s N (doorOf Φ (.exit 0) L_spec_l05First_5_e0).D (doorOf Φ .ret L_spec_l05First_5_rt).D w
    exact Eq.mpr e hb) hs h

def V_spec_l05First (x0 : Value) (n1 : Int) (sizes2 : Value) (w : World) (K : (Value × Bool) → World → Prop) : Prop :=
  (Pr Try.prog (Instr.box 25 x0) w (.one .any) fun (x3_2 : Value) w_1 => (Pr Try.prog (Instr.alloc 25 true (.tuple #[])) w_1 (.one .any) fun (x6_4 : Value) w_3 => (QAll Try.prog (Instr.fieldAt 25 x3_2 0) .any fun (x12_5 : Value) => (QSub Try.prog (Instr.loadAt 2 x12_5) w_3 (.int .i64) fun (x13_6 : Int) => (((x13_6 == n1) = true → (QSub Try.prog (Instr.loadAt 25 x3_2) w_3 .any fun (x16_7 : Value) => (PrU Try.prog (Instr.storeAt 25 x6_4 x16_7) w_3 fun w_8 => (QSub Try.prog (Instr.loadAt 25 x6_4) w_8 .any fun (r_10 : Value) => K ((r_10 : Value), true) w_8)))) ∧ ((x13_6 == n1) = false → (QSub Try.prog (Instr.loadAt 25 x3_2) w_3 .any fun (x17_11 : Value) => (Fc Try.prog 106 #[x17_11, sizes2, (.int .i64 (1048576 : Int))] w_3 (.one .any) fun (x19_13 : Value) w_12 => (At (loopAt Try.f82 5) (loopAt Try.f82 5) (LOOP (U := (Int × Value × Value × Value × Value)) (S := Int) (n1, (sizes2 : Value), (x3_2 : Value), (x6_4 : Value), (x19_13 : Value)) (fun N_62 s_63 w_64 => B_spec_l05First_5 n1 (sizes2 : Value) (x3_2 : Value) (x6_4 : Value) (x19_13 : Value) s_63 N_62 (fun (v_50 : (Value × Unit)) w_51 => ∀ _j_52 : Nat → Value, (Pr Try.prog (Instr.build 25 #[]) w_51 (.one .any) fun (x40_54 : Value) w_53 => (PrU Try.prog (Instr.storeAt 25 v_50.1 x40_54) w_53 fun w_55 => (QSub Try.prog (Instr.loadAt 25 v_50.1) w_55 .any fun (r_57 : Value) => K ((r_57 : Value), false) w_55)))) (fun (v_58 : (Value × Bool × Unit)) w_59 => ∀ _j_60 : Nat → Value, (QSub Try.prog (Instr.loadAt 25 v_58.1) w_59 .any fun (r_61 : Value) => K ((r_61 : Value), v_58.2.1) w_59)) w_64) (0 : Int) w_12))))))))))

theorem eq_spec_l05First (x0 : Value) (n1 : Int) (sizes2 : Value) (w : World) (K : (Value × Bool) → World → Prop) :
    W Try.prog ty O_spec_l05First_1 (bodyOf Try.f82) (fnPost Try.prog Try.f82.results.toList (.two .any .bool) K) (frame0 [x0, (.int .i64 n1), sizes2] 41) w = V_spec_l05First x0 n1 sizes2 w K := by
  kernel_rfl

theorem body_spec_l05First : Try.f82.body = some (bodyOf Try.f82) := by kernel_rfl
theorem name_spec_l05First : (Try.f82.name == "runtime.NumGoroutine") = false := by kernel_rfl

theorem walk_spec_l05First (x0 : Value) (n1 : Int) (sizes2 : Value) {w : World} {K : (Value × Bool) → World → Prop} (h : V_spec_l05First x0 n1 sizes2 w K) : Fc Try.prog 82 #[x0, (.int .i64 n1), sizes2] w (.two .any .bool) K :=
  fn_ok follows O_spec_l05First_1_ok Try.func82 name_spec_l05First body_spec_l05First Try.ntmps82 [x0, (.int .i64 n1), sizes2] (Eq.mpr (eq_spec_l05First x0 n1 sizes2 w K) h)

-- uses S9AvoS
def firstE (n k : Int) : List (List Int) → Col × Bool
  | [] => (col0, false)
  | e :: _ => (colE n k e, true)
theorem c_spec_l05First {n k : Int} {l : List Int} {a : Value} (n8 : n ≤ 8) (hk : k = l.length) (k4 : k ≤ 4) (hl : AllIn l 1 17) (hno : (1 : Int) ∉ l) (hmost : ∀ P : Int, 1 ≤ P → P < n → l.length ^ P.toNat < 1048576) :
    ∀ (g : Nat) (P : Int) (es : List Int) (w : World) (K : Value × Bool → World → Prop), P + g = n → 1 ≤ P → (es.length : Int) = edgesOf P → (∀ e ∈ es, 0 ≤ e ∧ e < k) → SlI w a l →
      (∀ w', Below w.heap.size w w' → (firstE n k (extE l l.length ((edgesOf n).toNat - es.length) es)).1.Ok → K ((firstE n k (extE l l.length ((edgesOf n).toNat - es.length) es)).1.val, (firstE n k (extE l l.length ((edgesOf n).toNat - es.length) es)).2) w') → Fc Try.prog F_spec_l05First #[(colE P k es).val, .int .i64 n, a] w (.two .any .bool) K
  | g, P, es, w, K, hg, P1, hel, hes, ha, hK => by
    have hed0 := edges_bd (n := P) (by omega) (by omega)
    have hedn := edges_bd (n := n) (by omega) (by omega)
    have hok : (colE P k es).Ok := colE_ok ⟨by omega, by omega⟩ ⟨by omega, by omega⟩ (by omega) fun e he => by have := hes e he; omega
    have hP : (colE P k es).n = P := rfl
    have hlle : es.length ≤ (edgesOf n).toNat := by
      have := edgesOf_mono (j := P) (n := n) (by omega) (by omega)
      omega
    have fok : (firstE n k (extE l l.length ((edgesOf n).toNat - es.length) es)).1.Ok := by
      cases h : extE l l.length ((edgesOf n).toNat - es.length) es with
      | nil => exact col0_ok
      | cons e t =>
        exact (extE_ok (n := n) (k := k) ⟨by omega, by omega⟩ hk k4 hes (by omega) (show e ∈ extE l l.length ((edgesOf n).toNat - es.length) es by rw [h]; exact List.mem_cons_self ..)).2.2
    have hK := fun w' q => hK w' q fok
    refine walk_spec_l05First _ _ _ (col_box fun bx w1 m1 ax => c_alloc fun p w2 q2 hv => col_n (ax.keep q2) ?_)
    rw [hP]
    have q1 := m1.below
    have hs1 := q1.size; have hs2 := q2.size
    have q12 := q1.trans (q2.mono hs1)
    refine ⟨fun he => ?_, fun hne => ?_⟩
    · have he := eq_t he
      have hf : (edgesOf n).toNat - es.length = 0 := by rw [← he]; omega
      rw [hf] at hK
      subst he
      exact col_all hok (ax.keep q2) (c_ret (K := fun r w' => K (r, true) w') hok hv hs2 fun w3 q3 => hK w3 (q1.trans ((q2.trans q3).mono hs1)))
    have hne := eq_f hne
    match g, hg with
    | 0, hg => omega
    | g + 1, hg =>
    have hPn : P < n := by omega
    have hed1 := edgesOf_mono (j := P + 1) (n := n) (by omega) (by omega)
    rw [edgesOf_succ] at hed1
    obtain ⟨g', hg'⟩ : ∃ g', (edgesOf n).toNat - es.length = P.toNat + g' := ⟨(edgesOf n).toNat - es.length - P.toNat, by omega⟩
    rw [hg', extE_add] at hK fok
    have hml := hmost P P1 hPn
    refine col_all hok (ax.keep q2) (c_spec_l05All P1 (by omega) hk k4 hl hno hel hes (ha.keep q12) (Nat.lt_of_le_of_lt (extE_len l l.length P.toNat es) hml) fun u w3 b rs hb q3 hu hr => ?_)
    have hrl : rs.length < 1048576 := by
      have h1 := congrArg List.length hr
      rw [List.length_map] at h1
      have h2 := extE_len l l.length P.toNat es
      omega
    rw [hr, List.flatMap_map] at hK fok
    have hrs : ∀ r ∈ rs, (r.length : Int) = P ∧ ∀ e ∈ r, 0 ≤ e ∧ e < k := fun r hrm => by
      have hm : es ++ r ∈ extE l l.length P.toNat es := by rw [hr]; exact List.mem_map_of_mem hrm
      obtain ⟨t, ht, htl, htb⟩ := extE_mem _ _ _ _ _ hm
      have := List.append_cancel_left ht
      subst this
      exact ⟨by omega, fun e he => by have := htb e he; omega⟩
    have q23 := q2.trans (q3.mono hs2)
    have hz3 := q23.size; have hz := q3.size
    obtain ⟨F, hF⟩ : ∃ F : List Int → List (List Int), (fun r => extE l l.length g' (es ++ r)) = F := ⟨_, rfl⟩
    rw [hF] at hK fok
    refine lp (fun s w' => Below w3.heap.size w3 w' ∧ ∃ i : Nat, s = i ∧ i ≤ rs.length ∧ (rs.drop i).flatMap F = rs.flatMap F) (fun s _ => (rs.length - s).toNat) ⟨Below.refl _ _, 0, rfl, by omega, rfl⟩ ?_
    rintro t w4 N ⟨q4, i, hi, hil, hR⟩ hN
    subst hi
    unfold B_spec_l05First_5
    refine (hu.keep q4).len_eq ⟨fun hlt => ?_, fun hge => ?_⟩
    · have hlt := dec_t hlt
      have hil' : i < rs.length := by omega
      intro w5 hd5
      have q5 := q4.trans (hd5.below w3.heap.size)
      have b25 : Below w2.heap.size w2 w5 := q3.trans (q5.mono hz)
      have b15 := q2.trans (b25.mono hs2)
      have q05 := q1.trans (b15.mono hs1)
      refine col_all hok (ax.keep b15) (atSS (hu.keep q5) (by omega) hlt fun rv rc hrc hrv => ?_)
      rw [Int.toNat_natCast] at hrv
      have hge' : rs.getD i [] = rs[i] := by simp [List.getD, hil']
      obtain ⟨r, hre⟩ : ∃ r, rs.getD i [] = r := ⟨_, rfl⟩
      have hrm := hrs r (by rw [← hre, hge']; exact List.getElem_mem hil')
      rw [hre] at hrv
      have hdr : rs.drop i = r :: rs.drop (i + 1) := by rw [List.drop_eq_getElem_cons hil', ← hge', hre]
      rw [hdr, List.flatMap_cons] at hR
      have hpl := hrm.1
      have hfl : (edgesOf n).toNat - (es ++ r).length = g' := by simp; omega
      have hFr : extE l l.length g' (es ++ r) = F r := by rw [← hF]
      have hz5 := q05.size; have hz25 := b25.size
      -- the rest of the round: the found colouring lies in a variable of its own
      have fin : ∀ (bo : Nat) (w' : World) (c : Col), c = (firstE n k (F r)).1 → c.Ok → Below w5.heap.size w5 w' → w5.heap.size ≤ bo → ColAt w' (ptr bo 0) c →
          ((firstE n k (F r)).2 = true → QSub Try.prog (Instr.loadAt tC (ptr bo 0)) w' .any fun x39 => PrU Try.prog (Instr.storeAt tC p x39) w' fun w_28 => (fun (v_58 : (Value × Bool × Unit)) w_59 => ∀ _j_60 : Nat → Value, (QSub Try.prog (Instr.loadAt 25 v_58.1) w_59 .any fun (r_61 : Value) => K ((r_61 : Value), v_58.2.1) w_59)) (p, true, ()) w_28) ∧
          ((firstE n k (F r)).2 = false → N (n, a, ptr bx 0, p, u) (IntKind.i64.wrap ((i : Int) + 1)) w') := fun bo w' c hc hcok q' hbo ac => by
        have b2' : Below w2.heap.size w2 w' := b25.trans (q'.mono hz25)
        have hv' := hv.keep b2'
        have b1' := q2.trans (b2'.mono hs2)
        cases hFF : F r with
        | nil =>
          refine ⟨fun h => absurd h (by simp [firstE]), fun _ => ?_⟩
          rw [hFF, List.nil_append] at hR
          rw [wrap_small (by omega) (by omega)]
          exact hN _ _ ⟨q5.trans (q'.mono q5.size), i + 1, by omega, by omega, hR⟩ (by omega)
        | cons e t =>
          refine ⟨fun _ => ?_, fun h => absurd h (by simp [firstE])⟩
          rw [hFF] at hc hR
          refine col_all hcok ac (c_put hcok hv' b1'.size fun w6 q6 hz6 ac6 => ?_)
          intro _
          refine col_all hcok ac6 ?_
          rw [← hR] at hK
          have := hK w6 (q1.trans ((b1'.trans q6).mono hs1))
          rw [hc]
          exact this
      have hrec := fun w' K' => c_spec_l05First (a := a) n8 hk k4 hl hno hmost g (P + 1) (es ++ r) w' K' (by omega) (by omega) (by rw [edgesOf_succ]; simp; omega) (fun e he => by
        rcases List.mem_append.1 he with he | he
        · exact hes e he
        · exact hrm.2 e he)
      rw [hfl, hFr] at hrec
      have put := fun w' (q' : Below w5.heap.size w5 w') K' => c_spec_l01Put (K := K') (w := w') P1 (by omega) (by omega) k4 hel hes ((own_slI hrv (by omega)).keep q') hrm.1 hrm.2
      refine ⟨put w5 (Below.refl _ _) _ fun w6 q6 => ⟨hrec w6 _ (ha.keep (q05.trans (q6.mono hz5))) fun w7 q7 hc7 => ?_, ?_⟩, ?_⟩
      · have q57 := q6.trans (q7.mono q6.size)
        have hz57 := q57.size
        refine col_var hc7 fun bo w8 hbo hbo2 q8 ac => ?_
        exact fin bo w8 _ rfl hc7 (q57.trans (q8.mono hz57)) (by omega) ac
      · refine allocA yC fun bo w7 n7 => hrec w7 _ (ha.keep ((q05.trans (q6.mono hz5)).trans (n7.below.mono (by have := q6.size; omega)))) fun w8 q8 hc8 => ?_
        have e7 := n7.here; have hz6 := q6.size; have hz7 := n7.below.size
        have hb8 : Blk w8 bo zC tC := below_at q8 n7.at_ (at_lt n7.at_)
        refine stA0 yC hb8 hc8.cells_len (by rw [hc8.cells_len]) (Col.cells_one _) fun w9 m9 s9 h9 => ?_
        have q58 := (q6.trans (n7.below.mono hz6)).trans (q8.mono (by omega))
        exact fin bo w9 _ rfl hc8 (q58.trans (m9.below q58.size (by simp; omega))) (by omega) (blk_row h9)
      · refine allocA yC fun bo w6 n6 => ⟨n6.below, put w6 n6.below _ fun w7 q7 => hrec w7 _ (ha.keep ((q05.trans (n6.below.mono hz5)).trans (q7.mono (by have := n6.below.size; omega)))) fun w8 q8 hc8 => ?_⟩
        have e6 := n6.here; have hz6 := n6.below.size; have hz7 := q7.size
        have b68 := q7.trans (q8.mono hz7)
        have hb8 : Blk w8 bo zC tC := below_at b68 n6.at_ (at_lt n6.at_)
        refine stA0 yC hb8 hc8.cells_len (by rw [hc8.cells_len]) (Col.cells_one _) fun w9 m9 s9 h9 => ?_
        have q58 := n6.below.trans (b68.mono hz6)
        exact fin bo w9 _ rfl hc8 (q58.trans (m9.below q58.size (by simp; omega))) (by omega) (blk_row h9)
    · have hge := dec_f hge
      have : i = rs.length := by omega
      subst this
      rw [List.drop_length] at hR
      intro _
      rw [← hR] at hK
      have b14 : Below w1.heap.size w1 w4 := q2.trans ((q3.trans (q4.mono hz)).mono hs2)
      exact c_none (K := fun r w' => K (r, false) w') (hv.keep (q3.trans (q4.mono hz))) b14.size fun w5 q5 => hK w5 (q1.trans ((b14.trans q5).mono hs1))

end Go.Proofs.Ytkadckhealbdaaa

/- The reading of spec_l05Sizes, and its contract. No condition. -/
namespace Go.Proofs.Ytkadckhealbdaaa
open Go Go.RowKit Eng Mem
set_option linter.unusedVariables false
set_option maxRecDepth 100000
def B_spec_l05Sizes_4 (sizes0 : Value) (c5 : Int) (N : Value → Int → World → Prop) (D0 : (Unit) → World → Prop) (R : (Int × Unit) → World → Prop) (w : World) : Prop :=
  (QAll Try.prog (Builtin.len_ #[31] 3 #[sizes0]) (.int .i64) fun (x12_2 : Int) => (((decide (c5 < x12_2)) = true → (QAll Try.prog (Instr.indexAt 31 sizes0 (.int .i64 c5)) .any fun (x18_3 : Value) => (QSub Try.prog (Instr.loadAt 2 x18_3) w (.int .i64) fun (x19_4 : Int) => (Fc Try.prog 43 #[(.int .i64 x19_4), (.int .i64 (1 : Int)), (.int .i64 (17 : Int))] w (.one .bool) fun (x20_6 : Bool) w_5 => (((!x20_6) = true → R ((2 : Int), ()) w_5) ∧ ((!x20_6) = false → N (sizes0 : Value) (IntKind.i64.wrap (c5 + (1 : Int))) w_5)))))) ∧ ((decide (c5 < x12_2)) = false → D0 () w)))

abbrev L_spec_l05Sizes_4_e0 : List Slot := [.junk, .junk, .junk, .junk, .junk, .junk, .junk, .junk, .junk, .junk, .junk, .junk, .junk, .junk, .junk, .junk, .junk, .junk, .junk, .junk, .junk, .junk]

abbrev L_spec_l05Sizes_4_sp : List Slot := [.k .any, .junk, .junk, .junk, .junk, .k (.int .i64), .junk, .junk, .junk, .junk, .junk, .junk, .junk, .junk, .junk, .junk, .junk, .junk, .junk, .junk, .junk, .junk]
abbrev L_spec_l05Sizes_4_ex : List (Nat × List Slot) := [(0, L_spec_l05Sizes_4_e0)]
abbrev L_spec_l05Sizes_4_rt : List Slot := [.junk, .junk, .junk, .junk, .k (.int .i64), .junk, .junk, .junk, .junk, .junk, .junk, .junk, .junk, .junk, .junk, .junk, .junk, .junk, .junk, .junk, .junk, .junk]

def L_spec_l05Sizes_4_b (Φ : Post) (u : Value) (N : Value → Int → World → Prop) (s : Int) (w : World) : Prop :=
  B_spec_l05Sizes_4 u s N (fun v w => ∀ j : Nat → Value, Φ (.exit 0) (mkT j 0 L_spec_l05Sizes_4_e0 v) w) (fun v w => ∀ j : Nat → Value, Φ .ret (mkT j 0 L_spec_l05Sizes_4_rt v) w) w

theorem L_spec_l05Sizes_4_eq (j : Nat → Value) (u : Value) (s : Int) (N : Value → Int → World → Prop) (D0 : (Unit) → World → Prop) (R : (Int × Unit) → World → Prop) (w : World) :
    W Try.prog ty (fun _ _ _ _ => False) (loopAt Try.f74 4) (loopPost L_spec_l05Sizes_4_sp [(0, (⟨L_spec_l05Sizes_4_e0, D0⟩ : Door))] ⟨L_spec_l05Sizes_4_rt, R⟩ (fun v w => N ((fun v => v.1) v) ((fun v => v.2.1) v) w)) (mkT j 0 L_spec_l05Sizes_4_sp ((fun u s => (u, s, ())) u s)) w =
    B_spec_l05Sizes_4 u s N D0 R w := by
  kernel_rfl

def O_spec_l05Sizes_1 : Code → Post → List SV → World → Prop :=
  orc 4 (loopAt Try.f74 4) L_spec_l05Sizes_4_sp (fun Φ fr w => LOOP (U := Value) (S := Int) ((fun v => v.1) (extT L_spec_l05Sizes_4_sp fr)) (L_spec_l05Sizes_4_b Φ ((fun v => v.1) (extT L_spec_l05Sizes_4_sp fr))) ((fun v => v.2.1) (extT L_spec_l05Sizes_4_sp fr)) w) (fun _ _ _ _ => False)

theorem O_spec_l05Sizes_1_ok : Sound Try.prog O_spec_l05Sizes_1 :=
  orc_ok (sound_none _) fun Φ fr w hs h => loop_ok (ty := ty) follows (sound_none _) L_spec_l05Sizes_4_sp (fun v => v.1) (fun v => v.2.1) (fun u s => (u, s, ())) (fun _ => rfl) L_spec_l05Sizes_4_ex L_spec_l05Sizes_4_rt (body := L_spec_l05Sizes_4_b Φ) (fun j u s w N hb => by
    have e := L_spec_l05Sizes_4_eq j u s N (doorOf Φ (.exit 0) L_spec_l05Sizes_4_e0).D (doorOf Φ .ret L_spec_l05Sizes_4_rt).D w
    exact Eq.mpr e hb) hs h

def V_spec_l05Sizes (sizes0 : Value) (k1 : Int) (w : World) (K : Int → World → Prop) : Prop :=
  (QAll Try.prog (Builtin.len_ #[31] 3 #[sizes0]) (.int .i64) fun (x7_1 : Int) => (((x7_1 != k1) = true → K (2 : Int) w) ∧ ((x7_1 != k1) = false → (At (loopAt Try.f74 4) (loopAt Try.f74 4) (LOOP (U := Value) (S := Int) (sizes0 : Value) (fun N_13 s_14 w_15 => B_spec_l05Sizes_4 (sizes0 : Value) s_14 N_13 (fun (v_7 : (Unit)) w_8 => ∀ _j_9 : Nat → Value, K (0 : Int) w_8) (fun (v_10 : (Int × Unit)) w_11 => ∀ _j_12 : Nat → Value, K v_10.1 w_11) w_15) (0 : Int) w)))))

theorem eq_spec_l05Sizes (sizes0 : Value) (k1 : Int) (w : World) (K : Int → World → Prop) :
    W Try.prog ty O_spec_l05Sizes_1 (bodyOf Try.f74) (fnPost Try.prog Try.f74.results.toList (.one (.int .i64)) K) (frame0 [sizes0, (.int .i64 k1)] 22) w = V_spec_l05Sizes sizes0 k1 w K := by
  kernel_rfl

theorem body_spec_l05Sizes : Try.f74.body = some (bodyOf Try.f74) := by kernel_rfl
theorem name_spec_l05Sizes : (Try.f74.name == "runtime.NumGoroutine") = false := by kernel_rfl

theorem walk_spec_l05Sizes (sizes0 : Value) (k1 : Int) {w : World} {K : Int → World → Prop} (h : V_spec_l05Sizes sizes0 k1 w K) : Fc Try.prog 74 #[sizes0, (.int .i64 k1)] w (.one (.int .i64)) K :=
  fn_ok follows O_spec_l05Sizes_1_ok Try.func74 name_spec_l05Sizes body_spec_l05Sizes Try.ntmps74 [sizes0, (.int .i64 k1)] (Eq.mpr (eq_spec_l05Sizes sizes0 k1 w K) h)

-- uses S3Part
theorem c_spec_l05Sizes {a : Value} {l : List Int} {k : Int} {w : World} {K : Int → World → Prop} (ha : SlI w a l) (hK : K (if (l.length : Int) = k ∧ AllIn l 1 17 then 0 else 2) w) : Fc Try.prog F_spec_l05Sizes #[a, .int .i64 k] w (.one (.int .i64)) K := by
  have hll := ha.len
  refine walk_spec_l05Sizes _ _ (lenI ha ⟨fun h => ?_, fun h => ?_⟩)
  · rwa [if_neg (fun hh => ne_t h hh.1)] at hK
  have h := ne_f h
  refine lp (fun s w' => w' = w ∧ ∃ c : Nat, s = c ∧ c ≤ l.length ∧ ∀ d : Nat, d < c → 1 ≤ l.getD d 0 ∧ l.getD d 0 ≤ 17) (fun s _ => (l.length - s).toNat) ⟨rfl, 0, rfl, by omega, fun d hd => absurd hd (by omega)⟩ ?_
  rintro t w2 N ⟨rfl, c, hc, hcl, hall⟩ hN
  subst hc
  unfold B_spec_l05Sizes_4
  refine lenI ha ⟨fun hlt => ?_, fun hge => ?_⟩
  · have hlt := dec_t hlt
    refine atI ha (by omega) hlt (c_spec_l01In _ _ _ ⟨fun hno => ?_, fun hyes => ?_⟩)
    · rw [Int.toNat_natCast] at hno
      intro _
      rwa [if_neg (fun hh => notd_t hno (hh.2 _ (by
        have : c < l.length := by omega
        have e : l.getD c 0 = l[c] := by simp [List.getD, this]
        rw [e]; exact List.getElem_mem this)))] at hK
    · have hyes := notd_f hyes
      rw [Int.toNat_natCast] at hyes
      rw [wrap_small (by omega) (by omega)]
      refine hN _ _ ⟨rfl, c + 1, by omega, by omega, fun d hd => ?_⟩ (by omega)
      by_cases hdc : d < c
      · exact hall d hdc
      · have : d = c := by omega
        subst this; exact hyes
  · have hge := dec_f hge
    intro _
    rwa [if_pos ⟨h, fun x hx => by
      obtain ⟨d, hd, rfl⟩ := List.mem_iff_getElem.1 hx
      have := hall d (by omega)
      simpa [List.getD, hd] using this⟩] at hK

end Go.Proofs.Ytkadckhealbdaaa

/- The reading of spec_FirstAvoiding, and its contract. No condition. -/
namespace Go.Proofs.Ytkadckhealbdaaa
open Go Go.RowKit Eng Mem
set_option linter.unusedVariables false
set_option maxRecDepth 100000
def V_spec_FirstAvoiding (n0 : Int) (sizes1 : Value) (w : World) (K : (Value × Int) → World → Prop) : Prop :=
  (Pr Try.prog (Instr.alloc 25 true (.tuple #[])) w (.one .any) fun (x4_2 : Value) w_1 => (Fc Try.prog 43 #[(.int .i64 n0), (.int .i64 (1 : Int)), (.int .i64 (8 : Int))] w_1 (.one .bool) fun (x10_4 : Bool) w_3 => (((!x10_4) = true → (Pr Try.prog (Instr.build 25 #[]) w_3 (.one .any) fun (x17_6 : Value) w_5 => (PrU Try.prog (Instr.storeAt 25 x4_2 x17_6) w_5 fun w_7 => (QSub Try.prog (Instr.loadAt 25 x4_2) w_7 .any fun (r_9 : Value) => K ((r_9 : Value), (2 : Int)) w_7)))) ∧ ((!x10_4) = false → (Fc Try.prog 74 #[sizes1, (.int .i64 (2 : Int))] w_3 (.one (.int .i64)) fun (x14_11 : Int) w_10 => (((x14_11 != (0 : Int)) = true → (Pr Try.prog (Instr.build 25 #[]) w_10 (.one .any) fun (x17_13 : Value) w_12 => (PrU Try.prog (Instr.storeAt 25 x4_2 x17_13) w_12 fun w_14 => (QSub Try.prog (Instr.loadAt 25 x4_2) w_14 .any fun (r_16 : Value) => K ((r_16 : Value), (2 : Int)) w_14)))) ∧ ((x14_11 != (0 : Int)) = false → (Pr Try.prog (Instr.build 25 #[(0, (.int .i64 (1 : Int))), (1, (.int .i64 (2 : Int)))]) w_10 (.one .any) fun (x18_18 : Value) w_17 => (Pr Try.prog (Instr.alloc 25 true (.tuple #[])) w_17 (.one .any) fun (x6_20 : Value) w_19 => (PrU Try.prog (Instr.storeAt 25 x6_20 x18_18) w_19 fun w_21 => (QSub Try.prog (Instr.loadAt 25 x6_20) w_21 .any fun (x19_23 : Value) => (Fc Try.prog 75 #[x19_23, sizes1] w_21 (.one .bool) fun (x21_25 : Bool) w_24 => (((!x21_25) = true → (Pr Try.prog (Instr.build 25 #[]) w_24 (.one .any) fun (x23_27 : Value) w_26 => (PrU Try.prog (Instr.storeAt 25 x4_2 x23_27) w_26 fun w_28 => (QSub Try.prog (Instr.loadAt 25 x4_2) w_28 .any fun (r_30 : Value) => K ((r_30 : Value), (4 : Int)) w_28)))) ∧ ((!x21_25) = false → (QSub Try.prog (Instr.loadAt 25 x6_20) w_24 .any fun (x25_31 : Value) => (Fc Try.prog 82 #[x25_31, (.int .i64 n0), sizes1] w_24 (.two .any .bool) fun (x28_33 : Value × Bool) w_32 => (Pr Try.prog (Instr.alloc 25 true (.tuple #[])) w_32 (.one .any) fun (out7_35 : Value) w_34 => (PrU Try.prog (Instr.storeAt 25 out7_35 x28_33.1) w_34 fun w_36 => (((!x28_33.2) = true → (Pr Try.prog (Instr.build 25 #[]) w_36 (.one .any) fun (x33_39 : Value) w_38 => (PrU Try.prog (Instr.storeAt 25 x4_2 x33_39) w_38 fun w_40 => (QSub Try.prog (Instr.loadAt 25 x4_2) w_40 .any fun (r_42 : Value) => K ((r_42 : Value), (4 : Int)) w_40)))) ∧ ((!x28_33.2) = false → (QSub Try.prog (Instr.loadAt 25 out7_35) w_36 .any fun (x34_43 : Value) => (PrU Try.prog (Instr.storeAt 25 x4_2 x34_43) w_36 fun w_44 => (QSub Try.prog (Instr.loadAt 25 x4_2) w_44 .any fun (r_46 : Value) => K ((r_46 : Value), (0 : Int)) w_44)))))))))))))))))))))))

theorem eq_spec_FirstAvoiding (n0 : Int) (sizes1 : Value) (w : World) (K : (Value × Int) → World → Prop) :
    W Try.prog ty (fun _ _ _ _ => False) (bodyOf Try.f38) (fnPost Try.prog Try.f38.results.toList (.two .any (.int .i64)) K) (frame0 [(.int .i64 n0), sizes1] 35) w = V_spec_FirstAvoiding n0 sizes1 w K := by
  kernel_rfl

theorem body_spec_FirstAvoiding : Try.f38.body = some (bodyOf Try.f38) := by kernel_rfl
theorem name_spec_FirstAvoiding : (Try.f38.name == "runtime.NumGoroutine") = false := by kernel_rfl

theorem walk_spec_FirstAvoiding (n0 : Int) (sizes1 : Value) {w : World} {K : (Value × Int) → World → Prop} (h : V_spec_FirstAvoiding n0 sizes1 w K) : Fc Try.prog 38 #[(.int .i64 n0), sizes1] w (.two .any (.int .i64)) K :=
  fn_ok follows (sound_none _) Try.func38 name_spec_FirstAvoiding body_spec_FirstAvoiding Try.ntmps38 [(.int .i64 n0), sizes1] (Eq.mpr (eq_spec_FirstAvoiding n0 sizes1 w K) h)

-- uses S9AvoS
theorem c_spec_FirstAvoiding {n : Int} {a : Value} {l : List Int} {w : World} {K : Value × Int → World → Prop} (_ : I64 n) (ha : ArgI w a l)
    (hK : ∀ w', Below w.heap.size w w' → (fstA n l).1.Ok → K ((fstA n l).1.val, (fstA n l).2) w') : Fc Try.prog F_spec_FirstAvoiding #[.int .i64 n, a] w (.two .any (.int .i64)) K := by
  have fok : (fstA n l).1.Ok := by
    unfold fstA
    split
    · rename_i h
      split
      · exact col0_ok
      · rename_i es t he
        have hed := edges_bd (n := n) (by omega) (by omega)
        have hmem : es ∈ allE n l := by rw [he]; exact List.mem_cons_self ..
        unfold allE at hmem
        split at hmem
        · cases hmem
        · exact (extE_ok (n := n) (k := 2) ⟨by omega, by omega⟩ (by omega) (by omega) (by simp) (by simp; omega) hmem).2.2
    · exact col0_ok
  have hK := fun w' hb => hK w' hb fok
  unfold fstA at hK
  refine walk_spec_FirstAvoiding _ _ (c_alloc fun p w1 q1 hv => c_spec_l01In _ _ _ ⟨fun h => ?_, fun h => c_spec_l05Sizes (ha.sl.keep q1) ?_⟩)
  · rw [if_neg (fun hh => notd_t h hh.1)] at hK
    exact c_none hv q1.size fun w3 q3 => hK w3 (q1.trans q3)
  have h := notd_f h
  have hs1 := q1.size
  by_cases h2 : (l.length : Int) = 2 ∧ AllIn l 1 17
  case neg =>
    rw [if_neg (fun hh => h2 ⟨by have := hh.2.1; omega, hh.2.2⟩)] at hK
    rw [if_neg h2]
    exact ⟨fun _ => c_none hv hs1 fun w3 q3 => hK w3 (q1.trans q3), fun hh => absurd (ne_f hh) (by omega)⟩
  rw [if_pos h2]
  rw [if_pos ⟨h, by omega, h2.2⟩] at hK
  have hok : (colE 1 2 []).Ok := colE_ok (by omega) (by omega) (by simp) (by simp)
  refine ⟨fun hh => absurd rfl (ne_t hh), fun _ => build2 (col_var (c := colE 1 2 []) hok fun b w2 hb hb2 q2 ac => col_all hok ac (c_spec_l05Avoids (k := 2) (by omega) (by omega) ((ha.sl.keep q1).keep q2) h2.2 fun w3 q3 => ?_))⟩
  have hs2 := q2.size
  have q12 := q1.trans (q2.mono hs1)
  have q13 := q12.trans (q3.mono q12.size)
  have hs3 := q3.size
  have hv3 := (hv.keep q2).keep q3
  unfold allE at hK
  refine ⟨fun hh => ?_, fun hh => col_all hok (ac.keep q3) ?_⟩
  · have h1 : (1 : Int) ∈ l := by simpa using hh
    rw [if_pos h1] at hK
    exact c_none hv3 (by omega) fun w4 q4 => hK w4 (q13.trans q4)
  have h1 : (1 : Int) ∉ l := by simpa using hh
  rw [if_neg h1] at hK
  have hF := fun K' => c_spec_l05First (n := n) (k := 2) (l := l) (a := a) (by omega) (by omega) (by omega) h2.2 h1 (fun P h3 h4 => Nat.lt_of_le_of_lt (Nat.le_trans (Nat.pow_le_pow_left (show l.length ≤ 2 by omega) _) (Nat.pow_le_pow_right (by omega) (show P.toNat ≤ 7 by omega))) (by decide)) (n - 1).toNat 1 [] w3 K' (by omega) (by omega) (by decide) (by simp) (ha.sl.keep q13)
  simp only [List.length_nil, Nat.sub_zero] at hF
  refine hF _ fun w4 q4 hc => col_var hc fun bo w5 hbo hbo2 q5 ao => ?_
  have q14 := q13.trans (q4.mono q13.size)
  have q15 := q14.trans (q5.mono q14.size)
  have hs4 := q4.size; have hs5 := q5.size
  have hv5 := (hv3.keep q4).keep q5
  cases hA : extE l l.length (edgesOf n).toNat [] with
  | nil =>
    rw [hA] at hK
    exact ⟨fun _ => c_none hv5 (by omega) fun w6 q6 => hK w6 (q15.trans q6), fun hh => absurd hh (by simp [firstE])⟩
  | cons e t =>
    rw [hA] at hK ao hc
    exact ⟨fun hh => absurd hh (by simp [firstE]), fun _ => col_all hc ao (c_ret hc hv5 (by omega) fun w6 q6 => hK w6 (q15.trans q6))⟩

end Go.Proofs.Ytkadckhealbdaaa

/- The reading of laws_FnExactFirstAvoiding, and its contract. No condition. -/
namespace Go.Proofs.Ytkadckhealbdaaa
open Go Go.RowKit Eng Mem
set_option linter.unusedVariables false
set_option maxRecDepth 100000
def V_laws_FnExactFirstAvoiding (aN0 : Int) (aSizes1 : Value) (w : World) (K : Bool → World → Prop) : Prop :=
  (QAll Try.prog (Builtin.len_ #[31] 3 #[aSizes1]) (.int .i64) fun (x11_1 : Int) => (((decide (x11_1 > (1048576 : Int))) = true → K true w) ∧ ((decide (x11_1 > (1048576 : Int))) = false → (Fc Try.prog 24 #[aSizes1] w (.one .any) fun (x16_3 : Value) w_2 => (Fc Try.prog 38 #[(.int .i64 aN0), x16_3] w_2 (.two .any (.int .i64)) fun (x17_5 : Value × Int) w_4 => (Pr Try.prog (Instr.alloc 25 true (.tuple #[])) w_4 (.one .any) fun (w05_7 : Value) w_6 => (PrU Try.prog (Instr.storeAt 25 w05_7 x17_5.1) w_6 fun w_8 => (Fc Try.prog 24 #[aSizes1] w_8 (.one .any) fun (x21_11 : Value) w_10 => (Fc Try.prog 39 #[(.int .i64 aN0), x21_11] w_10 (.two .any (.int .i64)) fun (x25_13 : Value × Int) w_12 => (Pr Try.prog (Instr.alloc 25 true (.tuple #[])) w_12 (.one .any) fun (g08_15 : Value) w_14 => (PrU Try.prog (Instr.storeAt 25 g08_15 x25_13.1) w_14 fun w_16 => (QSub Try.prog (Instr.loadAt 25 g08_15) w_16 .any fun (x28_18 : Value) => (QSub Try.prog (Instr.loadAt 25 w05_7) w_16 .any fun (x29_19 : Value) => (Fc Try.prog 17 #[x28_18, x29_19] w_16 (.one .bool) fun (x30_21 : Bool) w_20 => (((!x30_21) = true → K false w_20) ∧ ((!x30_21) = false → (((x25_13.2 != x17_5.2) = true → K false w_20) ∧ ((x25_13.2 != x17_5.2) = false → (Fc Try.prog 24 #[aSizes1] w_20 (.one .any) fun (x39_23 : Value) w_22 => (Fc Try.prog 20 #[x21_11, x39_23] w_22 (.one .bool) fun (x40_25 : Bool) w_24 => (((!x40_25) = true → K false w_24) ∧ ((!x40_25) = false → K true w_24))))))))))))))))))))))

theorem eq_laws_FnExactFirstAvoiding (aN0 : Int) (aSizes1 : Value) (w : World) (K : Bool → World → Prop) :
    W Try.prog ty (fun _ _ _ _ => False) (bodyOf Try.f12) (fnPost Try.prog Try.f12.results.toList (.one .bool) K) (frame0 [(.int .i64 aN0), aSizes1] 42) w = V_laws_FnExactFirstAvoiding aN0 aSizes1 w K := by
  kernel_rfl

theorem body_laws_FnExactFirstAvoiding : Try.f12.body = some (bodyOf Try.f12) := by kernel_rfl
theorem name_laws_FnExactFirstAvoiding : (Try.f12.name == "runtime.NumGoroutine") = false := by kernel_rfl

theorem walk_laws_FnExactFirstAvoiding (aN0 : Int) (aSizes1 : Value) {w : World} {K : Bool → World → Prop} (h : V_laws_FnExactFirstAvoiding aN0 aSizes1 w K) : Fc Try.prog 12 #[(.int .i64 aN0), aSizes1] w (.one .bool) K :=
  fn_ok follows (sound_none _) Try.func12 name_laws_FnExactFirstAvoiding body_laws_FnExactFirstAvoiding Try.ntmps12 [(.int .i64 aN0), aSizes1] (Eq.mpr (eq_laws_FnExactFirstAvoiding aN0 aSizes1 w K) h)

-- uses S2Sl
-- uses S9Law
theorem c_laws_FnExactFirstAvoiding {n0 : Int} {a1 : Value} {l1 : List Int} {w : World} {K : Bool → World → Prop} (h0 : I64 n0) (h1 : SlI w a1 l1 ∧ InI l1) (hK : ∀ w', Below w.heap.size w w' → K true w') :
    Fc Try.prog F_laws_FnExactFirstAvoiding #[.int .i64 n0, a1] w (.one .bool) K := by
  refine walk_laws_FnExactFirstAvoiding _ _ ?_
  have B := Below.refl w.heap.size w
  refine lenI h1.1 ?_
  refine ⟨fun _ => hK _ B, fun e1 => ?_⟩
  have e1 := dec_f e1
  replace h1 : ArgI _ _ _ := ⟨h1.1, by first | omega | (have := h1.1.len; omega), h1.2⟩
  have h10 := h1
  refine c_laws_toInt64S h1 fun v5 w2 q3 f4 => ?_
  replace h1 := h1.keep q3
  replace B := B.trans (q3.mono B.size)
  have f4_in := h1.ins
  have q3_s := q3.size
  refine c_spec_FirstAvoiding h0 ⟨f4.sl, h1.len, h1.ins⟩ fun w6 q7 o9 => ?_
  replace h1 := h1.keep q7
  replace f4 := f4.keep q7
  replace B := B.trans (q7.mono B.size)
  have q7_s := q7.size
  refine col_var o9 fun b14 w11 b14_l b14_h q12 f13 => ?_
  replace h1 := h1.keep q12
  replace f4 := f4.keep q12
  replace B := B.trans (q12.mono B.size)
  have q12_s := q12.size
  refine c_laws_toInt64S h1 fun v18 w15 q16 f17 => ?_
  replace h1 := h1.keep q16
  replace f4 := f4.keep q16
  replace f13 := f13.keep q16
  replace B := B.trans (q16.mono B.size)
  have f17_in := h1.ins
  have q16_s := q16.size
  refine c_impl_FirstAvoiding h0 ⟨f17.sl, h1.len, h1.ins⟩ fun w19 q20 o22 => ?_
  replace h1 := h1.keep q20
  replace f4 := f4.keep q20
  replace f13 := f13.keep q20
  replace f17 := f17.keep q20
  replace B := B.trans (q20.mono B.size)
  have q20_s := q20.size
  refine col_var o22 fun b27 w24 b27_l b27_h q25 f26 => ?_
  replace h1 := h1.keep q25
  replace f4 := f4.keep q25
  replace f13 := f13.keep q25
  replace f17 := f17.keep q25
  replace B := B.trans (q25.mono B.size)
  have q25_s := q25.size
  refine col_all o22 f26 ?_
  refine col_all o9 f13 ?_
  refine c_laws_eqColouring o22 o9 fun w28 q29 => ?_
  replace h1 := h1.keep q29
  replace f4 := f4.keep q29
  replace f13 := f13.keep q29
  replace f17 := f17.keep q29
  replace f26 := f26.keep q29
  replace B := B.trans (q29.mono B.size)
  have q29_s := q29.size
  refine ⟨fun e31 => absurd rfl (notd_t e31), fun _ => ?_⟩
  refine ⟨fun e32 => absurd rfl (ne_t e32), fun _ => ?_⟩
  refine c_laws_toInt64S h1 fun v36 w33 q34 f35 => ?_
  replace h1 := h1.keep q34
  replace f4 := f4.keep q34
  replace f13 := f13.keep q34
  replace f17 := f17.keep q34
  replace f26 := f26.keep q34
  replace B := B.trans (q34.mono B.size)
  have f35_in := h1.ins
  have q34_s := q34.size
  refine c_laws_eqInt64S f17.sl f35.sl fun w37 q38 => ?_
  replace h1 := h1.keep q38
  replace f4 := f4.keep q38
  replace f13 := f13.keep q38
  replace f17 := f17.keep q38
  replace f26 := f26.keep q38
  replace f35 := f35.keep q38
  replace B := B.trans (q38.mono B.size)
  have q38_s := q38.size
  refine ⟨fun e40 => absurd rfl (notd_t e40), fun _ => ?_⟩
  exact hK _ B

end Go.Proofs.Ytkadckhealbdaaa
