/- Texts that the law FnExactCountAvoiding needs, joined. No condition. -/
import Derived.Test.YtkadckhealbdaaaKCountAvoiding2
set_option linter.all false
/- The reading of spec_l05Search, and its contract. No condition. -/
namespace Go.Proofs.Ytkadckhealbdaaa
open Go Go.RowKit Eng Mem
set_option linter.unusedVariables false
set_option maxRecDepth 100000
def B_spec_l05Search_6 (sizes1 : Value) (colours2 : Value) (sets3 : Value) (most4 : Int) (x5 : Value) (n11 : Int) (out12 : Value) (c13 : Int) (N : (Value × Value × Value × Int × Value × Int) → (Value × Int) → World → Prop) (D0 : (Value × Unit) → World → Prop) (w : World) : Prop :=
  (QAll Try.prog (Instr.fieldAt 25 x5 1) .any fun (x25_10 : Value) => (QSub Try.prog (Instr.loadAt 2 x25_10) w (.int .i64) fun (x26_11 : Int) => (((decide (c13 < x26_11)) = true → (QAll Try.prog (Builtin.len_ #[68] 3 #[out12]) (.int .i64) fun (x30_12 : Int) => (((decide (x30_12 < most4)) = true → (∀ w_13, Drew w w_13 → (QAll Try.prog (Instr.indexAt 31 sizes1 (.int .i64 c13)) .any fun (x38_14 : Value) => (QSub Try.prog (Instr.loadAt 2 x38_14) w_13 (.int .i64) fun (x39_15 : Int) => (((decide (x39_15 < (2 : Int))) = true → N ((sizes1 : Value), (colours2 : Value), (sets3 : Value), most4, (x5 : Value), n11) ((out12 : Value), (IntKind.i64.wrap (c13 + (1 : Int)))) w_13) ∧ ((decide (x39_15 < (2 : Int))) = false → (QSub Try.prog (Instr.loadAt 25 x5) w_13 .any fun (x42_16 : Value) => (QAll Try.prog (Instr.indexAt 31 sets3 (.int .i64 c13)) .any fun (x46_17 : Value) => (QSub Try.prog (Instr.loadAt 2 x46_17) w_13 (.int .i64) fun (x47_18 : Int) => (QSub Try.prog (Instr.loadAt 25 x5) w_13 .any fun (x48_19 : Value) => (QAll Try.prog (Instr.indexAt 31 sizes1 (.int .i64 c13)) .any fun (x55_20 : Value) => (QSub Try.prog (Instr.loadAt 2 x55_20) w_13 (.int .i64) fun (x56_21 : Int) => (Fc Try.prog 117 #[x48_19, (.int .i64 n11), (.int .i64 c13)] w_13 (.one (.int .i64)) fun (x51_23 : Int) w_22 => (Keeps w_13 w_22 ((Fc Try.prog 105 #[x42_16, (.int .i64 c13), (.int .i64 (IntKind.i64.wrap ((BitVec.toNat (BitVec.ofInt (IntKind.bits .i64) x47_18 &&& BitVec.ofInt (IntKind.bits .i64) x51_23) : Nat)))), (.int .i64 (IntKind.i64.wrap (x56_21 - (2 : Int))))] w_22 (.one .bool) fun (x58_25 : Bool) w_24 => (Keeps w_13 w_24 (((x58_25 = true → N ((sizes1 : Value), (colours2 : Value), (sets3 : Value), most4, (x5 : Value), n11) ((out12 : Value), (IntKind.i64.wrap (c13 + (1 : Int)))) w_24) ∧ (x58_25 = false → (Fc Try.prog 90 #[sets3] w_24 (.one .any) fun (x61_27 : Value) w_26 => (QAll Try.prog (Instr.indexAt 31 x61_27 (.int .i64 c13)) .any fun (x66_28 : Value) => (QSub Try.prog (Instr.loadAt 2 x66_28) w_26 (.int .i64) fun (x67_29 : Int) => (QAll Try.prog (convert 2 102 (.int .i64 n11)) (.int .u64) fun (x69_30 : Int) => (0 ≤ x69_30 ∧ (QAll Try.prog (Instr.indexAt 31 x61_27 (.int .i64 c13)) .any fun (x72_31 : Value) => (PrU Try.prog (Instr.storeAt 2 x72_31 (.int .i64 (IntKind.i64.wrap ((BitVec.toNat (BitVec.ofInt (IntKind.bits .i64) x67_29 ||| BitVec.ofInt (IntKind.bits .i64) (IntKind.i64.wrap ((1 : Int) * 2 ^ min (Int.toNat x69_30) 64))) : Nat))))) w_26 fun w_32 => (∀ w_34, Drew w_32 w_34 → (QSub Try.prog (Instr.loadAt 25 x5) w_34 .any fun (x74_35 : Value) => (QAll Try.prog (Builtin.len_ #[68] 3 #[out12]) (.int .i64) fun (x84_36 : Int) => ((Fc Try.prog 90 #[colours2] w_34 (.one .any) fun (x77_38 : Value) w_37 => (Keeps w_34 w_37 ((Pr Try.prog (Instr.buildSlice 31 1 #[(0, (.int .i64 c13))]) w_37 (.one .any) fun (x79_40 : Value) w_39 => (Keeps w_34 w_39 ((Pr Try.prog (Builtin.append_ #[31, 31] 31 #[x77_38, x79_40]) w_39 (.one .any) fun (x80_42 : Value) w_41 => (Keeps w_34 w_41 ((Fc Try.prog 127 #[x74_35, sizes1, x80_42, x61_27, (.int .i64 (IntKind.i64.wrap (most4 - x84_36)))] w_41 (.one .any) fun (x86_44 : Value) w_43 => (Pr Try.prog (Builtin.append_ #[68, 68] 68 #[out12, x86_44]) w_43 (.one .any) fun (x87_46 : Value) w_45 => N ((sizes1 : Value), (colours2 : Value), (sets3 : Value), most4, (x5 : Value), n11) ((x87_46 : Value), (IntKind.i64.wrap (c13 + (1 : Int)))) w_45))))))))))) ∧ (Pr Try.prog (Instr.buildSlice 31 1 #[(0, (.int .i64 c13))]) w_34 (.one .any) fun (x79_48 : Value) w_47 => (Keeps w_34 w_47 ((Fc Try.prog 90 #[colours2] w_47 (.one .any) fun (x77_50 : Value) w_49 => (Keeps w_34 w_49 ((Pr Try.prog (Builtin.append_ #[31, 31] 31 #[x77_50, x79_48]) w_49 (.one .any) fun (x80_52 : Value) w_51 => (Keeps w_34 w_51 ((Fc Try.prog 127 #[x74_35, sizes1, x80_52, x61_27, (.int .i64 (IntKind.i64.wrap (most4 - x84_36)))] w_51 (.one .any) fun (x86_54 : Value) w_53 => (Pr Try.prog (Builtin.append_ #[68, 68] 68 #[out12, x86_54]) w_53 (.one .any) fun (x87_56 : Value) w_55 => N ((sizes1 : Value), (colours2 : Value), (sets3 : Value), most4, (x5 : Value), n11) ((x87_56 : Value), (IntKind.i64.wrap (c13 + (1 : Int)))) w_55)))))))))))))))))))))))))))))))))))))))))) ∧ ((decide (x30_12 < most4)) = false → D0 ((out12 : Value), ()) w)))) ∧ ((decide (c13 < x26_11)) = false → D0 ((out12 : Value), ()) w))))

abbrev L_spec_l05Search_6_e0 : List Slot := [.junk, .junk, .junk, .junk, .junk, .junk, .junk, .junk, .junk, .junk, .junk, .junk, .k .any, .junk, .junk, .junk, .junk, .junk, .junk, .junk, .junk, .junk, .junk, .junk, .junk, .junk, .junk, .junk, .junk, .junk, .junk, .junk, .junk, .junk, .junk, .junk, .junk, .junk, .junk, .junk, .junk, .junk, .junk, .junk, .junk, .junk, .junk, .junk, .junk, .junk, .junk, .junk, .junk, .junk, .junk, .junk, .junk, .junk, .junk, .junk, .junk, .junk, .junk, .junk, .junk, .junk, .junk, .junk, .junk, .junk, .junk, .junk, .junk, .junk, .junk, .junk, .junk, .junk, .junk, .junk, .junk, .junk, .junk, .junk, .junk, .junk, .junk, .junk, .junk]

abbrev L_spec_l05Search_6_sp : List Slot := [.junk, .k .any, .k .any, .k .any, .k (.int .i64), .k .any, .junk, .junk, .junk, .junk, .junk, .k (.int .i64), .k .any, .k (.int .i64), .junk, .junk, .junk, .junk, .junk, .junk, .junk, .junk, .junk, .junk, .junk, .junk, .junk, .junk, .junk, .junk, .junk, .junk, .junk, .junk, .junk, .junk, .junk, .junk, .junk, .junk, .junk, .junk, .junk, .junk, .junk, .junk, .junk, .junk, .junk, .junk, .junk, .junk, .junk, .junk, .junk, .junk, .junk, .junk, .junk, .junk, .junk, .junk, .junk, .junk, .junk, .junk, .junk, .junk, .junk, .junk, .junk, .junk, .junk, .junk, .junk, .junk, .junk, .junk, .junk, .junk, .junk, .junk, .junk, .junk, .junk, .junk, .junk, .junk, .junk]
abbrev L_spec_l05Search_6_ex : List (Nat × List Slot) := [(0, L_spec_l05Search_6_e0)]
abbrev L_spec_l05Search_6_rt : List Slot := [.junk, .junk, .junk, .junk, .junk, .junk, .junk, .junk, .junk, .junk, .junk, .junk, .junk, .junk, .junk, .junk, .junk, .junk, .junk, .junk, .junk, .junk, .junk, .junk, .junk, .junk, .junk, .junk, .junk, .junk, .junk, .junk, .junk, .junk, .junk, .junk, .junk, .junk, .junk, .junk, .junk, .junk, .junk, .junk, .junk, .junk, .junk, .junk, .junk, .junk, .junk, .junk, .junk, .junk, .junk, .junk, .junk, .junk, .junk, .junk, .junk, .junk, .junk, .junk, .junk, .junk, .junk, .junk, .junk, .junk, .junk, .junk, .junk, .junk, .junk, .junk, .junk, .junk, .junk, .junk, .junk, .junk, .junk, .junk, .junk, .junk, .junk, .junk, .junk]

def L_spec_l05Search_6_b (Φ : Post) (u : (Value × Value × Value × Int × Value × Int)) (N : (Value × Value × Value × Int × Value × Int) → (Value × Int) → World → Prop) (s : (Value × Int)) (w : World) : Prop :=
  B_spec_l05Search_6 u.1 u.2.1 u.2.2.1 u.2.2.2.1 u.2.2.2.2.1 u.2.2.2.2.2 s.1 s.2 N (fun v w => ∀ j : Nat → Value, Φ (.exit 0) (mkT j 0 L_spec_l05Search_6_e0 v) w) w

theorem L_spec_l05Search_6_eq (j : Nat → Value) (u : (Value × Value × Value × Int × Value × Int)) (s : (Value × Int)) (N : (Value × Value × Value × Int × Value × Int) → (Value × Int) → World → Prop) (D0 : (Value × Unit) → World → Prop) (R : (Unit) → World → Prop) (w : World) :
    W Try.prog ty (fun _ _ _ _ => False) (loopAt Try.f127 6) (loopPost L_spec_l05Search_6_sp [(0, (⟨L_spec_l05Search_6_e0, D0⟩ : Door))] ⟨L_spec_l05Search_6_rt, R⟩ (fun v w => N ((fun v => (v.1, v.2.1, v.2.2.1, v.2.2.2.1, v.2.2.2.2.1, v.2.2.2.2.2.1)) v) ((fun v => (v.2.2.2.2.2.2.1, v.2.2.2.2.2.2.2.1)) v) w)) (mkT j 0 L_spec_l05Search_6_sp ((fun u s => (u.1, u.2.1, u.2.2.1, u.2.2.2.1, u.2.2.2.2.1, u.2.2.2.2.2, s.1, s.2, ())) u s)) w =
    B_spec_l05Search_6 u.1 u.2.1 u.2.2.1 u.2.2.2.1 u.2.2.2.2.1 u.2.2.2.2.2 s.1 s.2 N D0 w := by
  kernel_rfl

def O_spec_l05Search_1 : Code → Post → List SV → World → Prop :=
  orc 6 (loopAt Try.f127 6) L_spec_l05Search_6_sp (fun Φ fr w => LOOP (U := (Value × Value × Value × Int × Value × Int)) (S := (Value × Int)) ((fun v => (v.1, v.2.1, v.2.2.1, v.2.2.2.1, v.2.2.2.2.1, v.2.2.2.2.2.1)) (extT L_spec_l05Search_6_sp fr)) (L_spec_l05Search_6_b Φ ((fun v => (v.1, v.2.1, v.2.2.1, v.2.2.2.1, v.2.2.2.2.1, v.2.2.2.2.2.1)) (extT L_spec_l05Search_6_sp fr))) ((fun v => (v.2.2.2.2.2.2.1, v.2.2.2.2.2.2.2.1)) (extT L_spec_l05Search_6_sp fr)) w) (fun _ _ _ _ => False)

theorem O_spec_l05Search_1_ok : Sound Try.prog O_spec_l05Search_1 :=
  orc_ok (sound_none _) fun Φ fr w hs h => loop_ok (ty := ty) follows (sound_none _) L_spec_l05Search_6_sp (fun v => (v.1, v.2.1, v.2.2.1, v.2.2.2.1, v.2.2.2.2.1, v.2.2.2.2.2.1)) (fun v => (v.2.2.2.2.2.2.1, v.2.2.2.2.2.2.2.1)) (fun u s => (u.1, u.2.1, u.2.2.1, u.2.2.2.1, u.2.2.2.2.1, u.2.2.2.2.2, s.1, s.2, ())) (fun _ => rfl) L_spec_l05Search_6_ex L_spec_l05Search_6_rt (body := L_spec_l05Search_6_b Φ) (fun j u s w N hb => by
    have e := L_spec_l05Search_6_eq j u s N (doorOf Φ (.exit 0) L_spec_l05Search_6_e0).D (doorOf Φ .ret L_spec_l05Search_6_rt).D w
    exact Eq.mpr e hb) hs h

def V_spec_l05Search (x0 : Value) (sizes1 : Value) (colours2 : Value) (sets3 : Value) (most4 : Int) (w : World) (K : Value → World → Prop) : Prop :=
  (Pr Try.prog (Instr.box 25 x0) w (.one .any) fun (x5_2 : Value) w_1 => (QAll Try.prog (Builtin.len_ #[31] 3 #[colours2]) (.int .i64) fun (x16_3 : Int) => (QAll Try.prog (Instr.fieldAt 25 x5_2 0) .any fun (x18_4 : Value) => (QSub Try.prog (Instr.loadAt 2 x18_4) w_1 (.int .i64) fun (x19_5 : Int) => (((x16_3 == x19_5) = true → (Pr Try.prog (Instr.buildSlice 68 1 #[(0, colours2)]) w_1 (.one .any) fun (x22_7 : Value) w_6 => K (x22_7 : Value) w_6)) ∧ ((x16_3 == x19_5) = false → (Pr Try.prog (Instr.buildSlice 68 0 #[]) w_1 (.one .any) fun (x23_9 : Value) w_8 => (At (loopAt Try.f127 6) (loopAt Try.f127 6) (LOOP (U := (Value × Value × Value × Int × Value × Int)) (S := (Value × Int)) ((sizes1 : Value), (colours2 : Value), (sets3 : Value), most4, (x5_2 : Value), x16_3) (fun N_60 s_61 w_62 => B_spec_l05Search_6 (sizes1 : Value) (colours2 : Value) (sets3 : Value) most4 (x5_2 : Value) x16_3 s_61.1 s_61.2 N_60 (fun (v_57 : (Value × Unit)) w_58 => ∀ _j_59 : Nat → Value, K (v_57.1 : Value) w_58) w_62) ((x23_9 : Value), (0 : Int)) w_8)))))))))

theorem eq_spec_l05Search (x0 : Value) (sizes1 : Value) (colours2 : Value) (sets3 : Value) (most4 : Int) (w : World) (K : Value → World → Prop) :
    W Try.prog ty O_spec_l05Search_1 (bodyOf Try.f127) (fnPost Try.prog Try.f127.results.toList (.one .any) K) (frame0 [x0, sizes1, colours2, sets3, (.int .i64 most4)] 89) w = V_spec_l05Search x0 sizes1 colours2 sets3 most4 w K := by
  kernel_rfl

theorem body_spec_l05Search : Try.f127.body = some (bodyOf Try.f127) := by kernel_rfl
theorem name_spec_l05Search : (Try.f127.name == "runtime.NumGoroutine") = false := by kernel_rfl

theorem walk_spec_l05Search (x0 : Value) (sizes1 : Value) (colours2 : Value) (sets3 : Value) (most4 : Int) {w : World} {K : Value → World → Prop} (h : V_spec_l05Search x0 sizes1 colours2 sets3 most4 w K) : Fc Try.prog 127 #[x0, sizes1, colours2, sets3, (.int .i64 most4)] w (.one .any) K :=
  fn_ok follows O_spec_l05Search_1_ok Try.func127 name_spec_l05Search body_spec_l05Search Try.ntmps127 [x0, sizes1, colours2, sets3, (.int .i64 most4)] (Eq.mpr (eq_spec_l05Search x0 sizes1 colours2 sets3 most4 w K) h)

-- uses S9AvoS
theorem c_spec_l05Search {P k : Int} {l es : List Int} {a : Value} (P1 : 1 ≤ P) (P16 : P ≤ 16) (hk : k = l.length) (k4 : k ≤ 4) (hl : AllIn l 1 17) (hel : (es.length : Int) = edgesOf P) (hes : ∀ e ∈ es, 0 ≤ e ∧ e < k) :
    ∀ (f : Nat) (cs : List Int) (cv sv : Value) (cb : Nat) (sets : List Int) (most B : Nat) (w : World) (K : Value → World → Prop), cs.length + f = P.toNat → B ≤ w.heap.size → B ≤ cb → OwnI w cb cv cs → SlI w sv sets → (sets.length : Int) = k → (∀ c : Nat, (c : Int) < k → sets.getD c 0 = (setN cs c : Nat)) → SlI w a l → (∀ e ∈ cs, 0 ≤ e ∧ e < k) →
      (extE l l.length f (es ++ cs)).length < most → most ≤ 1073741824 →
      (∀ u w' b rs, w.heap.size ≤ b → Below w.heap.size w w' → MySS B b w' u rs → extE l l.length f (es ++ cs) = rs.map (es ++ ·) → K u w') →
      Fc Try.prog F_spec_l05Search #[(colE P k es).val, a, cv, sv, .int .i64 (most : Int)] w (.one .any) K
  | f, cs, cv, sv, cb, sets, most, B, w, K, hlen, hB, hcb, hcv, hsv, hsl, hsets, ha, hcs, hmost, hm30, hK => by
    have hed0 := edges_bd (n := P) (by omega) (by omega)
    have hok : (colE P k es).Ok := colE_ok ⟨by omega, by omega⟩ ⟨by omega, by omega⟩ (by omega) fun e he => by have := hes e he; omega
    have hP : (colE P k es).n = P := rfl
    have hkk : (colE P k es).k = k := rfl
    have hcsl : cs.length ≤ 16 := by omega
    refine walk_spec_l05Search _ _ _ _ _ (col_box fun bx w1 m1 ax => ?_)
    have q1 := m1.below
    have hs1 := q1.size
    have hcv1 := hcv.keep q1
    refine lenI (own_slI hcv1 (by omega)) (col_n ax ⟨fun he => ?_, fun hne => ?_⟩)
    · have he := eq_t he
      rw [hP] at he
      have hf : f = 0 := by omega
      subst hf
      exact oneSS (B := B) hcv1 hcb fun u w' b hb q h => hK u w' b [cs] (by omega) (q1.trans (q.mono hs1)) h rfl
    have hne := eq_f hne
    rw [hP] at hne
    match f, hlen, hmost, hK with
    | 0, hlen, _, _ => omega
    | f + 1, hlen, hmost, hK =>
    rw [extE_succ] at hmost hK
    obtain ⟨i, hi⟩ : ∃ i : Int, (cs.length : Int) = i := ⟨_, rfl⟩
    have i0 : 0 ≤ i := by omega
    have iP : i < P := by omega
    have hlen2 : (es ++ cs).length = (enum i P).toNat := by rw [enum_eq]; simp; omega
    have hpair := pair_enum i0 iP (by omega)
    rw [← hlen2] at hpair
    have hstep : ∀ c : Nat, c < l.length → extR l l.length f (es ++ cs) c = (if okE l (es ++ cs) i P c then extE l l.length f (es ++ (cs ++ [(c : Int)])) else []) ++ extR l l.length f (es ++ cs) (c + 1) := fun c hc => by
      rw [extR_step l l.length f (es ++ cs) hc, hpair.1, hpair.2, ← List.append_assoc]
    refine nilSS fun b0 v0 w2 hb0 q2 _ h0 => ?_
    have q02 := q1.trans (q2.mono hs1)
    refine lp (fun s w' => Below w1.heap.size w1 w' ∧ ∃ (c b : Nat) (rs : List (List Int)), s.2 = c ∧ c ≤ l.length ∧ w1.heap.size ≤ b ∧ MySS B b w' s.1 rs ∧ rs.map (es ++ ·) ++ extR l l.length f (es ++ cs) c = extR l l.length f (es ++ cs) 0) (fun s _ => (17 - s.2).toNat) ⟨q2, 0, b0, [], rfl, by omega, hb0, h0.mono (by omega), rfl⟩ ?_
    rintro ⟨out, t⟩ w3 N ⟨q3, c, b, rs, hc, hcl, hb, hout, hR⟩ hN
    simp only at hc hout
    subst hc
    unfold B_spec_l05Search_6
    dsimp only
    have hlenR := congrArg List.length hR
    simp only [List.length_append, List.length_map] at hlenR
    rw [hi]
    refine col_k (ax.keep q3) ⟨fun hlt => hout.len_eq ⟨fun _ => ?_, fun h => absurd (by omega) (dec_f h)⟩, fun hge => ?_⟩
    · have hlt : (c : Int) < k := dec_t hlt
      have hcN : c < l.length := by omega
      intro w4 hd4
      have q4 := q3.trans (hd4.below w1.heap.size)
      have q04 := q1.trans (q4.mono hs1)
      have hin := hl.get (i := c) hcN
      have hsc := hstep c hcN
      have skip : ∀ w', Below w1.heap.size w1 w' → MySS B b w' out rs → okE l (es ++ cs) i P c = false → N (a, cv, sv, (most : Int), ptr bx 0, i) (out, IntKind.i64.wrap ((c : Int) + 1)) w' := fun w' q o hno => by
        rw [wrap_small (by omega) (by omega), ← hi]
        rw [hno] at hsc
        simp only [Bool.false_eq_true, if_false, List.nil_append] at hsc
        exact hN _ _ ⟨q, c + 1, b, rs, by simp only; omega, by omega, hb, o, by rw [← hsc]; exact hR⟩ (by simp only; omega)
      have b34 := hd4.below w3.heap.size
      refine atI (ha.keep q04) (by omega) (by omega) ?_
      rw [Int.toNat_natCast]
      refine ⟨fun h2 => skip w4 q4 (hout.keep b34) (ok_two (by rw [Int.toNat_natCast]; exact dec_t h2)), fun h2 => ?_⟩
      have h2 := dec_f h2
      refine col_all hok (ax.keep q4) (atI (hsv.keep q04) (by omega) (by omega) (col_all hok (ax.keep q4) (atI (ha.keep q04) (by omega) (by omega) ?_)))
      rw [Int.toNat_natCast, hsets c hlt]
      have hset := bitsN_lt (fun p => decide (cs.getD p 0 = (c : Int))) cs.length
      have hset : setN cs c < 2 ^ cs.length := hset
      have h17 : 2 ^ cs.length ≤ 2 ^ 16 := Nat.pow_le_pow_right (by omega) hcsl
      have hP17 : 2 ^ P.toNat ≤ 2 ^ 16 := Nat.pow_le_pow_right (by omega) (by omega)
      refine c_spec_l01Around hok i0 (by omega) (by rw [hP]; omega) fun w5 q5 => ⟨q5, ?_⟩
      rw [hP]
      have hbl := bitsN_lt (fun p => joinB (colE P k es) i p c) P.toNat
      rw [wand (by omega) (by omega) (by omega) (by omega), Int.toNat_natCast, Int.toNat_natCast]
      obtain ⟨m, hm⟩ : ∃ m : Nat, l.getD c 0 - 2 = m := ⟨(l.getD c 0 - 2).toNat, by omega⟩
      rw [hm, wrap_small (n := (m : Int)) (by omega) (by omega)]
      refine c_spec_l03Clique (x := colE P k es) (c := (c : Int)) hok (by rw [hP]; omega) (by rw [hP]; omega) m _ w5 _ (by rw [hP]; exact Nat.lt_of_le_of_lt Nat.and_le_right hbl) (by omega) fun w6 q6 => ?_
      have hspec := ok_spec (P := P) (k := k) (i := i) (c := (c : Int)) (l := l) (es := es) (cs := cs) i0 iP P16 hel hi
      rw [Int.toNat_natCast, show (l.getD c 0 - 2).toNat = m from by omega] at hspec
      rw [hP, hspec]
      have q46 := q5.trans (q6.mono q5.size)
      refine ⟨q46, fun hno => ?_, fun hyes => ?_⟩
      · have hno := not_t hno
        exact skip w6 (q4.trans (q46.mono q4.size)) (hout.keep (b34.trans (q46.mono b34.size))) hno
      have hyes := not_f hyes
      rw [hyes] at hsc
      simp only [if_true] at hsc
      have q06 := q04.trans (q46.mono q04.size)
      have q16 := q4.trans (q46.mono q4.size)
      have b36 := b34.trans (q46.mono b34.size)
      refine c_spec_l01Own (hsv.keep q06) (by omega) fun w7 ov ob hob q7 ho7 => atI (own_slI ho7 (by omega)) (by omega) (by omega) ?_
      rw [Int.toNat_natCast, hsets c hlt]
      refine int_u64 i0 (by omega) ⟨i0, ?_⟩
      have hwb := wbor (u := setN cs c) (j := cs.length) (by omega) (by omega)
      rw [hi] at hwb
      rw [hwb]
      refine putI ho7 (by omega) (by omega) fun w8 m8 s8 ho8 => ?_
      rw [Int.toNat_natCast] at ho8
      intro w9 hd9
      have hs6 := q06.size; have hs7 := q7.size; have hs16 := q16.size
      have b68 : Below w6.heap.size w6 w8 := q7.trans (m8.below (by omega) (by simp; omega))
      have b89 := hd9.below w8.heap.size
      have b69 := b68.trans (hd9.below w6.heap.size)
      have q09 := q06.trans (b69.mono hs6)
      have q19 := q16.trans (b69.mono hs16)
      have b39 := b36.trans (b69.mono b36.size)
      have ho9 : OwnI w9 ob ov _ := ho8.keep b89
      have ax9 := ax.keep q19
      have hout9 := hout.keep b39
      have hcv9 := hcv.keep q09
      have hsets' : ∀ d : Nat, (d : Int) < k → (sets.set c ((setN cs c ||| 2 ^ cs.length : Nat) : Int)).getD d 0 = (setN (cs ++ [(c : Int)]) d : Nat) := fun d hd => by
        rw [setN_app]
        by_cases hcd : c = d
        · subst hcd
          rw [if_pos rfl]
          simp [List.getD, show c < sets.length by omega]
        · rw [if_neg (by omega), List.getD_eq_getElem?_getD, List.getElem?_set_ne hcd, ← List.getD_eq_getElem?_getD]
          exact hsets d hd
      have hz9 := q09.size; have hz19 := q19.size
      -- the recursion, and what follows
      have fin : ∀ (cv' : Value) (cb' : Nat) (w' : World), Below w9.heap.size w9 w' → B ≤ cb' → OwnI w' cb' cv' (cs ++ [(c : Int)]) →
          Fc Try.prog F_spec_l05Search #[(colE P k es).val, a, cv', ov, .int .i64 (IntKind.i64.wrap ((most : Int) - rs.length))] w' (.one .any) fun x86 w43 => Pr Try.prog (Builtin.append_ #[tSSI, tSSI] tSSI #[out, x86]) w43 (.one .any) fun x87 w45 => N (a, cv, sv, (most : Int), ptr bx 0, i) (x87, IntKind.i64.wrap ((c : Int) + 1)) w45 := fun cv' cb' w' q hcb' ho' => by
        have q0' := q09.trans (q.mono hz9)
        have hX := congrArg List.length hsc
        simp only [List.length_append] at hX
        rw [wrap_small (by omega) (by omega), show (most : Int) - rs.length = ((most - rs.length : Nat) : Int) from by omega]
        refine c_spec_l05Search P1 P16 hk k4 hl hel hes f (cs ++ [(c : Int)]) cv' ov cb' _ (most - rs.length) B w' _ (by simp; omega) (by have := q0'.size; omega) hcb' ho' (own_slI (ho9.keep q) (by simp; omega)) (by simp; omega) hsets' (ha.keep q0') (fun e he => by
          rcases List.mem_append.1 he with he | he
          · exact hcs e he
          · simp at he; omega) (by omega) (by omega) fun y w'' b' rs' hb' q' hy hyr => ?_
        have q2' := q.trans (q'.mono q.size)
        refine appsSS (hout9.keep q2') hy (by
          have := congrArg List.length hyr
          rw [List.length_map] at this
          omega) fun u' w6' b6 hu' m6' hb6 => ?_
        rw [wrap_small (by omega) (by omega), ← hi]
        have q1'' := q19.trans (q2'.mono hz19)
        have hzz := q1''.size
        refine hN _ _ ⟨q1''.trans (m6'.below (by omega) (by simp; omega)), c + 1, b6, rs ++ rs', by simp only; omega, by omega, by have := q2'.size; omega, hu', ?_⟩ (by simp only; omega)
        rw [List.map_append, ← hyr, List.append_assoc, ← hsc]
        exact hR
      refine col_all hok ax9 (hout9.len_eq ⟨?_, ?_⟩)
      · refine c_spec_l01Own (own_slI hcv9 (by omega)) (by omega) fun w10 x cx hcx q10 hx => ⟨q10, ?_⟩
        have hz10 := q10.size
        refine mk1 ySI rfl fun b11 w11 n11 o11 => ⟨q10.trans (n11.below.mono hz10), ?_⟩
        have hz11 := n11.below.size
        refine app ySI 1 (hx.keep n11.below) o11.sl (by simp) (iv_one [(c : Int)]) (by omega) fun y w12 b12 o12 m12 hb12 => ?_
        have q12 : Below w9.heap.size w9 w12 := (q10.trans (n11.below.mono hz10)).trans (m12.below (by omega) (by simp; omega))
        refine ⟨q12, fin y b12 w12 q12 (by omega) ?_⟩
        unfold OwnI
        rw [List.length_append, iv, List.map_append]
        exact o12
      · refine mk1 ySI rfl fun b10 w10 n10 o10 => ⟨n10.below, c_spec_l01Own ((own_slI hcv9 (by omega)).keep n10.below) (by omega) fun w11 x cx hcx q11 hx => ?_⟩
        have hz10 := n10.below.size
        have q911 := n10.below.trans (q11.mono hz10)
        have hz11 := q911.size
        refine ⟨q911, app ySI 1 hx (o10.keep q11).sl (by simp) (iv_one [(c : Int)]) (by omega) fun y w12 b12 o12 m12 hb12 => ?_⟩
        have q12 : Below w9.heap.size w9 w12 := q911.trans (m12.below (by omega) (by simp; omega))
        refine ⟨q12, fin y b12 w12 q12 (by omega) ?_⟩
        unfold OwnI
        rw [List.length_append, iv, List.map_append]
        exact o12
    · have hge : ¬ (c : Int) < k := dec_f hge
      have : c = l.length := by omega
      subst this
      rw [extR_end, List.append_nil] at hR
      intro _
      exact hK out w3 b rs (by omega) (q1.trans (q3.mono hs1)) hout hR.symm

end Go.Proofs.Ytkadckhealbdaaa

/- The reading of spec_l05All, and its contract. No condition. -/
namespace Go.Proofs.Ytkadckhealbdaaa
open Go Go.RowKit Eng Mem
set_option linter.unusedVariables false
set_option maxRecDepth 100000
def B_spec_l05All_2 (sizes1 : Value) (most2 : Int) (x3 : Value) (c7 : Int) (N : (Value × Int × Value) → Int → World → Prop) (D0 : (Value × Int × Value × Unit) → World → Prop) (R : (Value × Unit) → World → Prop) (w : World) : Prop :=
  (QAll Try.prog (Builtin.len_ #[31] 3 #[sizes1]) (.int .i64) fun (x10_3 : Int) => (((decide (c7 < x10_3)) = true → (QAll Try.prog (Instr.indexAt 31 sizes1 (.int .i64 c7)) .any fun (x16_4 : Value) => (QSub Try.prog (Instr.loadAt 2 x16_4) w (.int .i64) fun (x17_5 : Int) => (((x17_5 == (1 : Int)) = true → (Pr Try.prog (Instr.buildSlice 68 0 #[]) w (.one .any) fun (x19_7 : Value) w_6 => R ((x19_7 : Value), ()) w_6)) ∧ ((x17_5 == (1 : Int)) = false → N ((sizes1 : Value), most2, (x3 : Value)) (IntKind.i64.wrap (c7 + (1 : Int))) w))))) ∧ ((decide (c7 < x10_3)) = false → D0 ((sizes1 : Value), most2, (x3 : Value), ()) w)))

abbrev L_spec_l05All_2_e0 : List Slot := [.junk, .k .any, .k (.int .i64), .k .any, .junk, .junk, .junk, .junk, .junk, .junk, .junk, .junk, .junk, .junk, .junk, .junk, .junk, .junk, .junk, .junk, .junk, .junk, .junk, .junk, .junk, .junk, .junk, .junk]

abbrev L_spec_l05All_2_sp : List Slot := [.junk, .k .any, .k (.int .i64), .k .any, .junk, .junk, .junk, .k (.int .i64), .junk, .junk, .junk, .junk, .junk, .junk, .junk, .junk, .junk, .junk, .junk, .junk, .junk, .junk, .junk, .junk, .junk, .junk, .junk, .junk]
abbrev L_spec_l05All_2_ex : List (Nat × List Slot) := [(0, L_spec_l05All_2_e0)]
abbrev L_spec_l05All_2_rt : List Slot := [.junk, .junk, .junk, .junk, .junk, .junk, .k .any, .junk, .junk, .junk, .junk, .junk, .junk, .junk, .junk, .junk, .junk, .junk, .junk, .junk, .junk, .junk, .junk, .junk, .junk, .junk, .junk, .junk]

def L_spec_l05All_2_b (Φ : Post) (u : (Value × Int × Value)) (N : (Value × Int × Value) → Int → World → Prop) (s : Int) (w : World) : Prop :=
  B_spec_l05All_2 u.1 u.2.1 u.2.2 s N (fun v w => ∀ j : Nat → Value, Φ (.exit 0) (mkT j 0 L_spec_l05All_2_e0 v) w) (fun v w => ∀ j : Nat → Value, Φ .ret (mkT j 0 L_spec_l05All_2_rt v) w) w

theorem L_spec_l05All_2_eq (j : Nat → Value) (u : (Value × Int × Value)) (s : Int) (N : (Value × Int × Value) → Int → World → Prop) (D0 : (Value × Int × Value × Unit) → World → Prop) (R : (Value × Unit) → World → Prop) (w : World) :
    W Try.prog ty (fun _ _ _ _ => False) (loopAt Try.f106 2) (loopPost L_spec_l05All_2_sp [(0, (⟨L_spec_l05All_2_e0, D0⟩ : Door))] ⟨L_spec_l05All_2_rt, R⟩ (fun v w => N ((fun v => (v.1, v.2.1, v.2.2.1)) v) ((fun v => v.2.2.2.1) v) w)) (mkT j 0 L_spec_l05All_2_sp ((fun u s => (u.1, u.2.1, u.2.2, s, ())) u s)) w =
    B_spec_l05All_2 u.1 u.2.1 u.2.2 s N D0 R w := by
  kernel_rfl

def O_spec_l05All_1 : Code → Post → List SV → World → Prop :=
  orc 2 (loopAt Try.f106 2) L_spec_l05All_2_sp (fun Φ fr w => LOOP (U := (Value × Int × Value)) (S := Int) ((fun v => (v.1, v.2.1, v.2.2.1)) (extT L_spec_l05All_2_sp fr)) (L_spec_l05All_2_b Φ ((fun v => (v.1, v.2.1, v.2.2.1)) (extT L_spec_l05All_2_sp fr))) ((fun v => v.2.2.2.1) (extT L_spec_l05All_2_sp fr)) w) (fun _ _ _ _ => False)

theorem O_spec_l05All_1_ok : Sound Try.prog O_spec_l05All_1 :=
  orc_ok (sound_none _) fun Φ fr w hs h => loop_ok (ty := ty) follows (sound_none _) L_spec_l05All_2_sp (fun v => (v.1, v.2.1, v.2.2.1)) (fun v => v.2.2.2.1) (fun u s => (u.1, u.2.1, u.2.2, s, ())) (fun _ => rfl) L_spec_l05All_2_ex L_spec_l05All_2_rt (body := L_spec_l05All_2_b Φ) (fun j u s w N hb => by
    have e := L_spec_l05All_2_eq j u s N (doorOf Φ (.exit 0) L_spec_l05All_2_e0).D (doorOf Φ .ret L_spec_l05All_2_rt).D w
    exact Eq.mpr e hb) hs h

def V_spec_l05All (x0 : Value) (sizes1 : Value) (most2 : Int) (w : World) (K : Value → World → Prop) : Prop :=
  (Pr Try.prog (Instr.box 25 x0) w (.one .any) fun (x3_2 : Value) w_1 => (At (loopAt Try.f106 2) (loopAt Try.f106 2) (LOOP (U := (Value × Int × Value)) (S := Int) ((sizes1 : Value), most2, (x3_2 : Value)) (fun N_30 s_31 w_32 => B_spec_l05All_2 (sizes1 : Value) most2 (x3_2 : Value) s_31 N_30 (fun (v_8 : (Value × Int × Value × Unit)) w_9 => ∀ _j_10 : Nat → Value, (∀ w_11, Drew w_9 w_11 → (QSub Try.prog (Instr.loadAt 25 v_8.2.2.1) w_11 .any fun (x20_12 : Value) => (QAll Try.prog (Instr.fieldAt 25 v_8.2.2.1 1) .any fun (x23_13 : Value) => (QSub Try.prog (Instr.loadAt 2 x23_13) w_11 (.int .i64) fun (x24_14 : Int) => ((Pr Try.prog (Instr.buildSlice 31 0 #[]) w_11 (.one .any) fun (x22_16 : Value) w_15 => (Keeps w_11 w_15 ((Pr Try.prog (Instr.makeSlice 31 (.int .i64 x24_14) (.int .i64 x24_14)) w_15 (.one .any) fun (x25_18 : Value) w_17 => (Keeps w_11 w_17 ((Fc Try.prog 127 #[x20_12, v_8.1, x22_16, x25_18, (.int .i64 v_8.2.1)] w_17 (.one .any) fun (x27_20 : Value) w_19 => (Keeps w_11 w_19 (K (x27_20 : Value) w_19))))))))) ∧ (Pr Try.prog (Instr.makeSlice 31 (.int .i64 x24_14) (.int .i64 x24_14)) w_11 (.one .any) fun (x25_22 : Value) w_21 => (Keeps w_11 w_21 ((Pr Try.prog (Instr.buildSlice 31 0 #[]) w_21 (.one .any) fun (x22_24 : Value) w_23 => (Keeps w_11 w_23 ((Fc Try.prog 127 #[x20_12, v_8.1, x22_24, x25_22, (.int .i64 v_8.2.1)] w_23 (.one .any) fun (x27_26 : Value) w_25 => (Keeps w_11 w_25 (K (x27_26 : Value) w_25))))))))))))))) (fun (v_27 : (Value × Unit)) w_28 => ∀ _j_29 : Nat → Value, K (v_27.1 : Value) w_28) w_32) (0 : Int) w_1)))

theorem eq_spec_l05All (x0 : Value) (sizes1 : Value) (most2 : Int) (w : World) (K : Value → World → Prop) :
    W Try.prog ty O_spec_l05All_1 (bodyOf Try.f106) (fnPost Try.prog Try.f106.results.toList (.one .any) K) (frame0 [x0, sizes1, (.int .i64 most2)] 28) w = V_spec_l05All x0 sizes1 most2 w K := by
  kernel_rfl

theorem body_spec_l05All : Try.f106.body = some (bodyOf Try.f106) := by kernel_rfl
theorem name_spec_l05All : (Try.f106.name == "runtime.NumGoroutine") = false := by kernel_rfl

theorem walk_spec_l05All (x0 : Value) (sizes1 : Value) (most2 : Int) {w : World} {K : Value → World → Prop} (h : V_spec_l05All x0 sizes1 most2 w K) : Fc Try.prog 106 #[x0, sizes1, (.int .i64 most2)] w (.one .any) K :=
  fn_ok follows O_spec_l05All_1_ok Try.func106 name_spec_l05All body_spec_l05All Try.ntmps106 [x0, sizes1, (.int .i64 most2)] (Eq.mpr (eq_spec_l05All x0 sizes1 most2 w K) h)

-- uses S9AvoS
theorem c_spec_l05All {P k : Int} {l es : List Int} {a : Value} {w : World} {K : Value → World → Prop} (P1 : 1 ≤ P) (P16 : P ≤ 16) (hk : k = l.length) (k4 : k ≤ 4) (hl : AllIn l 1 17) (hno : (1 : Int) ∉ l) (hel : (es.length : Int) = edgesOf P) (hes : ∀ e ∈ es, 0 ≤ e ∧ e < k) (ha : SlI w a l)
    (hmost : (extE l l.length P.toNat es).length < 1048576)
    (hK : ∀ u w' b rs, w.heap.size ≤ b → Below w.heap.size w w' → MySS w.heap.size b w' u rs → extE l l.length P.toNat es = rs.map (es ++ ·) → K u w') : Fc Try.prog F_spec_l05All #[(colE P k es).val, a, .int .i64 1048576] w (.one .any) K := by
  have hed0 := edges_bd (n := P) (by omega) (by omega)
  have hok : (colE P k es).Ok := colE_ok ⟨by omega, by omega⟩ ⟨by omega, by omega⟩ (by omega) fun e he => by have := hes e he; omega
  refine walk_spec_l05All _ _ _ (col_box fun bx w1 m1 ax => ?_)
  have q1 := m1.below
  have hs1 := q1.size
  have hll := ha.len
  refine lp (fun s w' => w' = w1 ∧ ∃ c : Nat, s = c ∧ c ≤ l.length) (fun s _ => (l.length - s).toNat) ⟨rfl, 0, rfl, by omega⟩ ?_
  rintro t w2 N ⟨rfl, c, hc, hcl⟩ hN
  subst hc
  unfold B_spec_l05All_2
  refine lenI (ha.keep q1) ⟨fun hlt => ?_, fun hge => ?_⟩
  · have hlt := dec_t hlt
    refine atI (ha.keep q1) (by omega) hlt ⟨fun h => ?_, fun h => ?_⟩
    · have h := eq_t h
      rw [Int.toNat_natCast] at h
      have hcl' : c < l.length := by omega
      have e : l.getD c 0 = l[c] := by simp [List.getD, hcl']
      exact absurd (by rw [← h, e]; exact List.getElem_mem hcl') hno
    · rw [wrap_small (by omega) (by omega)]
      exact hN _ _ ⟨rfl, c + 1, by omega, by omega⟩ (by omega)
  · intro _ w3 hd3
    try dsimp only
    have q3 := q1.trans (hd3.below w.heap.size)
    have b13 := hd3.below w2.heap.size
    have hs3 := q3.size
    have ax3 := ax.keep b13
    have hkk : (colE P k es).k = k := rfl
    have hz : ∀ c : Nat, (c : Int) < k → (List.replicate k.toNat (0 : Int)).getD c 0 = (setN [] c : Nat) := fun c hc => by
      simp [List.getD, setN, bitsN, show c < k.toNat by omega]
    refine col_all hok ax3 (col_k ax3 ?_)
    rw [hkk]
    refine ⟨nilI fun b0 v0 w4 e0 q4 o0 => ⟨q4, mkI (by omega) (by omega) fun b1 v1 w5 m5 o5 => ?_⟩, mkI (by omega) (by omega) fun b1 v1 w4 m4 o4 => ⟨m4.below, nilI fun b0 v0 w5 e0 q5 o0 => ?_⟩⟩
    · have q35 := q4.trans (m5.below.mono q4.size)
      have q5 := q3.trans (q35.mono hs3)
      have hz5 := q35.size
      refine ⟨q35, ?_⟩
      have hS := fun K' => c_spec_l05Search P1 P16 hk k4 hl hel hes P.toNat [] v0 v1 b0 _ 1048576 w.heap.size w5 K' (by simp) q5.size (by omega) (o0.keep m5.below) (own_slI o5 (by simp; omega)) (by simp; omega) hz (ha.keep q5) (by simp) (by rw [List.append_nil]; exact hmost) (by omega)
      rw [show (((1048576 : Nat) : Int)) = 1048576 from rfl, List.append_nil] at hS
      refine hS _ fun u w6 b rs hb q6 hu hr => ⟨q35.trans (q6.mono hz5), hK u w6 b rs (by have := q5.size; omega) (q5.trans (q6.mono q5.size)) hu hr⟩
    · have q35 := m4.below.trans (q5.mono m4.below.size)
      have q5' := q3.trans (q35.mono hs3)
      have hz5 := q35.size
      have hz4 := m4.below.size
      refine ⟨q35, ?_⟩
      have hS := fun K' => c_spec_l05Search P1 P16 hk k4 hl hel hes P.toNat [] v0 v1 b0 _ 1048576 w.heap.size w5 K' (by simp) q5'.size (by omega) o0 (own_slI (o4.keep q5) (by simp; omega)) (by simp; omega) hz (ha.keep q5') (by simp) (by rw [List.append_nil]; exact hmost) (by omega)
      rw [show (((1048576 : Nat) : Int)) = 1048576 from rfl, List.append_nil] at hS
      refine hS _ fun u w6 b rs hb q6 hu hr => ⟨q35.trans (q6.mono hz5), hK u w6 b rs (by have := q5'.size; omega) (q5'.trans (q6.mono q5'.size)) hu hr⟩

end Go.Proofs.Ytkadckhealbdaaa

/- The reading of spec_l05Number, and its contract. No condition. -/
namespace Go.Proofs.Ytkadckhealbdaaa
open Go Go.RowKit Eng Mem
set_option linter.unusedVariables false
set_option maxRecDepth 100000
def B_spec_l05Number_5 (n1 : Int) (sizes2 : Value) (x3 : Value) (all7 : Value) (count8 : Int) (i9 : Int) (N : (Int × Value × Value × Value) → (Int × Int) → World → Prop) (D0 : (Int × Unit) → World → Prop) (w : World) : Prop :=
  (QAll Try.prog (Builtin.len_ #[68] 3 #[all7]) (.int .i64) fun (x19_8 : Int) => (((decide (i9 < x19_8)) = true → (∀ w_9, Drew w w_9 → (QSub Try.prog (Instr.loadAt 25 x3) w_9 .any fun (x24_10 : Value) => (QAll Try.prog (Instr.indexAt 68 all7 (.int .i64 i9)) .any fun (x27_11 : Value) => (QSub Try.prog (Instr.loadAt 31 x27_11) w_9 .any fun (x28_12 : Value) => (Fc Try.prog 107 #[x24_10, x28_12] w_9 (.one .any) fun (x29_14 : Value) w_13 => (Fc Try.prog 76 #[x29_14, (.int .i64 n1), sizes2] w_13 (.one (.int .i64)) fun (x32_16 : Int) w_15 => N (n1, (sizes2 : Value), (x3 : Value), (all7 : Value)) ((IntKind.i64.wrap (count8 + x32_16)), (IntKind.i64.wrap (i9 + (1 : Int)))) w_15))))))) ∧ ((decide (i9 < x19_8)) = false → D0 (count8, ()) w)))

abbrev L_spec_l05Number_5_e0 : List Slot := [.junk, .junk, .junk, .junk, .junk, .junk, .junk, .junk, .k (.int .i64), .junk, .junk, .junk, .junk, .junk, .junk, .junk, .junk, .junk, .junk, .junk, .junk, .junk, .junk, .junk, .junk, .junk, .junk, .junk, .junk, .junk, .junk, .junk, .junk, .junk, .junk]

abbrev L_spec_l05Number_5_sp : List Slot := [.junk, .k (.int .i64), .k .any, .k .any, .junk, .junk, .junk, .k .any, .k (.int .i64), .k (.int .i64), .junk, .junk, .junk, .junk, .junk, .junk, .junk, .junk, .junk, .junk, .junk, .junk, .junk, .junk, .junk, .junk, .junk, .junk, .junk, .junk, .junk, .junk, .junk, .junk, .junk]
abbrev L_spec_l05Number_5_ex : List (Nat × List Slot) := [(0, L_spec_l05Number_5_e0)]
abbrev L_spec_l05Number_5_rt : List Slot := [.junk, .junk, .junk, .junk, .junk, .junk, .junk, .junk, .junk, .junk, .junk, .junk, .junk, .junk, .junk, .junk, .junk, .junk, .junk, .junk, .junk, .junk, .junk, .junk, .junk, .junk, .junk, .junk, .junk, .junk, .junk, .junk, .junk, .junk, .junk]

def L_spec_l05Number_5_b (Φ : Post) (u : (Int × Value × Value × Value)) (N : (Int × Value × Value × Value) → (Int × Int) → World → Prop) (s : (Int × Int)) (w : World) : Prop :=
  B_spec_l05Number_5 u.1 u.2.1 u.2.2.1 u.2.2.2 s.1 s.2 N (fun v w => ∀ j : Nat → Value, Φ (.exit 0) (mkT j 0 L_spec_l05Number_5_e0 v) w) w

theorem L_spec_l05Number_5_eq (j : Nat → Value) (u : (Int × Value × Value × Value)) (s : (Int × Int)) (N : (Int × Value × Value × Value) → (Int × Int) → World → Prop) (D0 : (Int × Unit) → World → Prop) (R : (Unit) → World → Prop) (w : World) :
    W Try.prog ty (fun _ _ _ _ => False) (loopAt Try.f76 5) (loopPost L_spec_l05Number_5_sp [(0, (⟨L_spec_l05Number_5_e0, D0⟩ : Door))] ⟨L_spec_l05Number_5_rt, R⟩ (fun v w => N ((fun v => (v.1, v.2.1, v.2.2.1, v.2.2.2.1)) v) ((fun v => (v.2.2.2.2.1, v.2.2.2.2.2.1)) v) w)) (mkT j 0 L_spec_l05Number_5_sp ((fun u s => (u.1, u.2.1, u.2.2.1, u.2.2.2, s.1, s.2, ())) u s)) w =
    B_spec_l05Number_5 u.1 u.2.1 u.2.2.1 u.2.2.2 s.1 s.2 N D0 w := by
  kernel_rfl

def O_spec_l05Number_1 : Code → Post → List SV → World → Prop :=
  orc 5 (loopAt Try.f76 5) L_spec_l05Number_5_sp (fun Φ fr w => LOOP (U := (Int × Value × Value × Value)) (S := (Int × Int)) ((fun v => (v.1, v.2.1, v.2.2.1, v.2.2.2.1)) (extT L_spec_l05Number_5_sp fr)) (L_spec_l05Number_5_b Φ ((fun v => (v.1, v.2.1, v.2.2.1, v.2.2.2.1)) (extT L_spec_l05Number_5_sp fr))) ((fun v => (v.2.2.2.2.1, v.2.2.2.2.2.1)) (extT L_spec_l05Number_5_sp fr)) w) (fun _ _ _ _ => False)

theorem O_spec_l05Number_1_ok : Sound Try.prog O_spec_l05Number_1 :=
  orc_ok (sound_none _) fun Φ fr w hs h => loop_ok (ty := ty) follows (sound_none _) L_spec_l05Number_5_sp (fun v => (v.1, v.2.1, v.2.2.1, v.2.2.2.1)) (fun v => (v.2.2.2.2.1, v.2.2.2.2.2.1)) (fun u s => (u.1, u.2.1, u.2.2.1, u.2.2.2, s.1, s.2, ())) (fun _ => rfl) L_spec_l05Number_5_ex L_spec_l05Number_5_rt (body := L_spec_l05Number_5_b Φ) (fun j u s w N hb => by
    have e := L_spec_l05Number_5_eq j u s N (doorOf Φ (.exit 0) L_spec_l05Number_5_e0).D (doorOf Φ .ret L_spec_l05Number_5_rt).D w
    exact Eq.mpr e hb) hs h

def V_spec_l05Number (x0 : Value) (n1 : Int) (sizes2 : Value) (w : World) (K : Int → World → Prop) : Prop :=
  (Pr Try.prog (Instr.box 25 x0) w (.one .any) fun (x3_2 : Value) w_1 => (QAll Try.prog (Instr.fieldAt 25 x3_2 0) .any fun (x10_3 : Value) => (QSub Try.prog (Instr.loadAt 2 x10_3) w_1 (.int .i64) fun (x11_4 : Int) => (((x11_4 == n1) = true → K (1 : Int) w_1) ∧ ((x11_4 == n1) = false → (QSub Try.prog (Instr.loadAt 25 x3_2) w_1 .any fun (x14_5 : Value) => (Fc Try.prog 106 #[x14_5, sizes2, (.int .i64 (1048576 : Int))] w_1 (.one .any) fun (x16_7 : Value) w_6 => (At (loopAt Try.f76 5) (loopAt Try.f76 5) (LOOP (U := (Int × Value × Value × Value)) (S := (Int × Int)) (n1, (sizes2 : Value), (x3_2 : Value), (x16_7 : Value)) (fun N_20 s_21 w_22 => B_spec_l05Number_5 n1 (sizes2 : Value) (x3_2 : Value) (x16_7 : Value) s_21.1 s_21.2 N_20 (fun (v_17 : (Int × Unit)) w_18 => ∀ _j_19 : Nat → Value, K v_17.1 w_18) w_22) ((0 : Int), (0 : Int)) w_6)))))))))

theorem eq_spec_l05Number (x0 : Value) (n1 : Int) (sizes2 : Value) (w : World) (K : Int → World → Prop) :
    W Try.prog ty O_spec_l05Number_1 (bodyOf Try.f76) (fnPost Try.prog Try.f76.results.toList (.one (.int .i64)) K) (frame0 [x0, (.int .i64 n1), sizes2] 35) w = V_spec_l05Number x0 n1 sizes2 w K := by
  kernel_rfl

theorem body_spec_l05Number : Try.f76.body = some (bodyOf Try.f76) := by kernel_rfl
theorem name_spec_l05Number : (Try.f76.name == "runtime.NumGoroutine") = false := by kernel_rfl

theorem walk_spec_l05Number (x0 : Value) (n1 : Int) (sizes2 : Value) {w : World} {K : Int → World → Prop} (h : V_spec_l05Number x0 n1 sizes2 w K) : Fc Try.prog 76 #[x0, (.int .i64 n1), sizes2] w (.one (.int .i64)) K :=
  fn_ok follows O_spec_l05Number_1_ok Try.func76 name_spec_l05Number body_spec_l05Number Try.ntmps76 [x0, (.int .i64 n1), sizes2] (Eq.mpr (eq_spec_l05Number x0 n1 sizes2 w K) h)

-- uses S9AvoS
theorem c_spec_l05Number {n k : Int} {l : List Int} {a : Value} (n8 : n ≤ 8) (hk : k = l.length) (k4 : k ≤ 4) (hl : AllIn l 1 17) (hno : (1 : Int) ∉ l) (hmost : ∀ P : Int, 1 ≤ P → P < n → l.length ^ P.toNat < 1048576) :
    ∀ (g : Nat) (P : Int) (es : List Int) (w : World) (K : Int → World → Prop), P + g = n → 1 ≤ P → (es.length : Int) = edgesOf P → (∀ e ∈ es, 0 ≤ e ∧ e < k) → SlI w a l → (extE l l.length ((edgesOf n).toNat - es.length) es).length ≤ 1073741824 →
      (∀ w', Below w.heap.size w w' → K (extE l l.length ((edgesOf n).toNat - es.length) es).length w') → Fc Try.prog F_spec_l05Number #[(colE P k es).val, .int .i64 n, a] w (.one (.int .i64)) K
  | g, P, es, w, K, hg, P1, hel, hes, ha, hbd, hK => by
    have hed0 := edges_bd (n := P) (by omega) (by omega)
    have hok : (colE P k es).Ok := colE_ok ⟨by omega, by omega⟩ ⟨by omega, by omega⟩ (by omega) fun e he => by have := hes e he; omega
    have hP : (colE P k es).n = P := rfl
    refine walk_spec_l05Number _ _ _ (col_box fun bx w1 m1 ax => col_n ax ?_)
    rw [hP]
    have q1 := m1.below
    have hs1 := q1.size
    refine ⟨fun he => ?_, fun hne => ?_⟩
    · have he := eq_t he
      have hf : (edgesOf n).toNat - es.length = 0 := by rw [← he]; omega
      have := hK w1 q1
      rw [hf] at this
      exact this
    have hne := eq_f hne
    match g, hg with
    | 0, hg => omega
    | g + 1, hg =>
    have hPn : P < n := by omega
    have hed1 := edgesOf_mono (j := P + 1) (n := n) (by omega) (by omega)
    rw [edgesOf_succ] at hed1
    have hedn := edges_bd (n := n) (by omega) (by omega)
    obtain ⟨g', hg'⟩ : ∃ g', (edgesOf n).toNat - es.length = P.toNat + g' := ⟨(edgesOf n).toNat - es.length - P.toNat, by omega⟩
    rw [hg', extE_add] at hbd hK
    have hml := hmost P P1 hPn
    refine col_all hok ax (c_spec_l05All P1 (by omega) hk k4 hl hno hel hes (ha.keep q1) (Nat.lt_of_le_of_lt (extE_len l l.length P.toNat es) hml) fun u w2 b rs hb q2 hu hr => ?_)
    have hrl : rs.length < 1048576 := by
      have h1 := congrArg List.length hr
      rw [List.length_map] at h1
      have h2 := extE_len l l.length P.toNat es
      omega
    rw [hr, List.flatMap_map] at hbd hK
    have hrs : ∀ r ∈ rs, (r.length : Int) = P ∧ ∀ e ∈ r, 0 ≤ e ∧ e < k := fun r hrm => by
      have hm : es ++ r ∈ extE l l.length P.toNat es := by rw [hr]; exact List.mem_map_of_mem hrm
      obtain ⟨t, ht, htl, htb⟩ := extE_mem _ _ _ _ _ hm
      have := List.append_cancel_left ht
      subst this
      exact ⟨by omega, fun e he => by have := htb e he; omega⟩
    have q12 := q1.trans (q2.mono hs1)
    have hs2 := q12.size
    have part : ∀ i : Nat, i ≤ rs.length → ((rs.take i).flatMap fun r => extE l l.length g' (es ++ r)).length ≤ (rs.flatMap fun r => extE l l.length g' (es ++ r)).length := fun i hi => by
      conv => rhs; rw [← List.take_append_drop i rs, List.flatMap_append, List.length_append]
      omega
    refine lp (fun s w' => Below w2.heap.size w2 w' ∧ ∃ i : Nat, s.2 = i ∧ i ≤ rs.length ∧ s.1 = (((rs.take i).flatMap fun r => extE l l.length g' (es ++ r)).length : Nat)) (fun s _ => (rs.length - s.2).toNat) ⟨Below.refl _ _, 0, rfl, by omega, by simp⟩ ?_
    rintro ⟨cnt, t⟩ w3 N ⟨q3, i, hi, hil, hcnt⟩ hN
    simp only at hi hcnt
    subst hi; subst hcnt
    unfold B_spec_l05Number_5
    dsimp only
    have p1 := part i hil
    refine (hu.keep q3).len_eq ⟨fun hlt => ?_, fun hge => ?_⟩
    · have hlt := dec_t hlt
      have hil' : i < rs.length := by omega
      intro w4 hd4
      have q4 := q3.trans (hd4.below w2.heap.size)
      have b14 : Below w1.heap.size w1 w4 := q2.trans (q4.mono q2.size)
      have q04 := q1.trans (b14.mono hs1)
      refine col_all hok (ax.keep b14) (atSS (hu.keep q4) (by omega) hlt fun rv rc hrc hrv => ?_)
      rw [Int.toNat_natCast] at hrv
      have hge' : rs.getD i [] = rs[i] := by simp [List.getD, hil']
      obtain ⟨r, hre⟩ : ∃ r, rs.getD i [] = r := ⟨_, rfl⟩
      have hrm := hrs r (by rw [← hre, hge']; exact List.getElem_mem hil')
      rw [hre] at hrv
      have htk : rs.take (i + 1) = rs.take i ++ [r] := by rw [List.take_succ_eq_append_getElem hil', ← hge', hre]
      have p2 := part (i + 1) (by omega)
      rw [htk, List.flatMap_append, List.flatMap_singleton, List.length_append] at p2
      have hpl := hrm.1
      refine c_spec_l01Put P1 (by omega) (by omega) k4 hel hes (own_slI hrv (by omega)) hrm.1 hrm.2 fun w5 q5 => ?_
      have q05 := q04.trans (q5.mono q04.size)
      have hfl : (edgesOf n).toNat - (es ++ r).length = g' := by simp; omega
      have hrec := fun K' => c_spec_l05Number (a := a) n8 hk k4 hl hno hmost g (P + 1) (es ++ r) w5 K'
      rw [hfl] at hrec
      refine hrec _ (by omega) (by omega) (by rw [edgesOf_succ]; simp; omega) (fun e he => by
        rcases List.mem_append.1 he with he | he
        · exact hes e he
        · exact hrm.2 e he) (ha.keep q05) (by omega) fun w6 q6 => ?_
      rw [wrap_small (n := (i : Int) + 1) (by omega) (by omega), wrap_small (by omega) (by omega)]
      refine hN _ _ ⟨q4.trans ((q5.trans (q6.mono q5.size)).mono q4.size), i + 1, by simp only; omega, by omega, ?_⟩ (by simp only; omega)
      simp only
      rw [htk, List.flatMap_append, List.flatMap_singleton, List.length_append]
      omega
    · have hge := dec_f hge
      have : i = rs.length := by omega
      subst this
      intro _
      have := hK w3 (q12.trans (q3.mono hs2))
      rw [List.take_length]
      exact this

end Go.Proofs.Ytkadckhealbdaaa

/- The reading of spec_l05Sizes, and its contract. No condition. -/
namespace Go.Proofs.Ytkadckhealbdaaa
open Go Go.RowKit Eng Mem
set_option linter.unusedVariables false
set_option maxRecDepth 100000
def B_spec_l05Sizes_4 (sizes0 : Value) (c5 : Int) (N : Value → Int → World → Prop) (D0 : (Unit) → World → Prop) (R : (Int × Unit) → World → Prop) (w : World) : Prop :=
  (QAll Try.prog (Builtin.len_ #[31] 3 #[sizes0]) (.int .i64) fun (x12_2 : Int) => (((decide (c5 < x12_2)) = true → (QAll Try.prog (Instr.indexAt 31 sizes0 (.int .i64 c5)) .any fun (x18_3 : Value) => (QSub Try.prog (Instr.loadAt 2 x18_3) w (.int .i64) fun (x19_4 : Int) => (Fc Try.prog 43 #[(.int .i64 x19_4), (.int .i64 (1 : Int)), (.int .i64 (17 : Int))] w (.one .bool) fun (x20_6 : Bool) w_5 => (((!x20_6) = true → R ((2 : Int), ()) w_5) ∧ ((!x20_6) = false → N (sizes0 : Value) (IntKind.i64.wrap (c5 + (1 : Int))) w_5)))))) ∧ ((decide (c5 < x12_2)) = false → D0 () w)))

abbrev L_spec_l05Sizes_4_e0 : List Slot := [.junk, .junk, .junk, .junk, .junk, .junk, .junk, .junk, .junk, .junk, .junk, .junk, .junk, .junk, .junk, .junk, .junk, .junk, .junk, .junk, .junk, .junk]

abbrev L_spec_l05Sizes_4_sp : List Slot := [.k .any, .junk, .junk, .junk, .junk, .k (.int .i64), .junk, .junk, .junk, .junk, .junk, .junk, .junk, .junk, .junk, .junk, .junk, .junk, .junk, .junk, .junk, .junk]
abbrev L_spec_l05Sizes_4_ex : List (Nat × List Slot) := [(0, L_spec_l05Sizes_4_e0)]
abbrev L_spec_l05Sizes_4_rt : List Slot := [.junk, .junk, .junk, .junk, .k (.int .i64), .junk, .junk, .junk, .junk, .junk, .junk, .junk, .junk, .junk, .junk, .junk, .junk, .junk, .junk, .junk, .junk, .junk]

def L_spec_l05Sizes_4_b (Φ : Post) (u : Value) (N : Value → Int → World → Prop) (s : Int) (w : World) : Prop :=
  B_spec_l05Sizes_4 u s N (fun v w => ∀ j : Nat → Value, Φ (.exit 0) (mkT j 0 L_spec_l05Sizes_4_e0 v) w) (fun v w => ∀ j : Nat → Value, Φ .ret (mkT j 0 L_spec_l05Sizes_4_rt v) w) w

theorem L_spec_l05Sizes_4_eq (j : Nat → Value) (u : Value) (s : Int) (N : Value → Int → World → Prop) (D0 : (Unit) → World → Prop) (R : (Int × Unit) → World → Prop) (w : World) :
    W Try.prog ty (fun _ _ _ _ => False) (loopAt Try.f74 4) (loopPost L_spec_l05Sizes_4_sp [(0, (⟨L_spec_l05Sizes_4_e0, D0⟩ : Door))] ⟨L_spec_l05Sizes_4_rt, R⟩ (fun v w => N ((fun v => v.1) v) ((fun v => v.2.1) v) w)) (mkT j 0 L_spec_l05Sizes_4_sp ((fun u s => (u, s, ())) u s)) w =
    B_spec_l05Sizes_4 u s N D0 R w := by
  kernel_rfl

def O_spec_l05Sizes_1 : Code → Post → List SV → World → Prop :=
  orc 4 (loopAt Try.f74 4) L_spec_l05Sizes_4_sp (fun Φ fr w => LOOP (U := Value) (S := Int) ((fun v => v.1) (extT L_spec_l05Sizes_4_sp fr)) (L_spec_l05Sizes_4_b Φ ((fun v => v.1) (extT L_spec_l05Sizes_4_sp fr))) ((fun v => v.2.1) (extT L_spec_l05Sizes_4_sp fr)) w) (fun _ _ _ _ => False)

theorem O_spec_l05Sizes_1_ok : Sound Try.prog O_spec_l05Sizes_1 :=
  orc_ok (sound_none _) fun Φ fr w hs h => loop_ok (ty := ty) follows (sound_none _) L_spec_l05Sizes_4_sp (fun v => v.1) (fun v => v.2.1) (fun u s => (u, s, ())) (fun _ => rfl) L_spec_l05Sizes_4_ex L_spec_l05Sizes_4_rt (body := L_spec_l05Sizes_4_b Φ) (fun j u s w N hb => by
    have e := L_spec_l05Sizes_4_eq j u s N (doorOf Φ (.exit 0) L_spec_l05Sizes_4_e0).D (doorOf Φ .ret L_spec_l05Sizes_4_rt).D w
    exact Eq.mpr e hb) hs h

def V_spec_l05Sizes (sizes0 : Value) (k1 : Int) (w : World) (K : Int → World → Prop) : Prop :=
  (QAll Try.prog (Builtin.len_ #[31] 3 #[sizes0]) (.int .i64) fun (x7_1 : Int) => (((x7_1 != k1) = true → K (2 : Int) w) ∧ ((x7_1 != k1) = false → (At (loopAt Try.f74 4) (loopAt Try.f74 4) (LOOP (U := Value) (S := Int) (sizes0 : Value) (fun N_13 s_14 w_15 => B_spec_l05Sizes_4 (sizes0 : Value) s_14 N_13 (fun (v_7 : (Unit)) w_8 => ∀ _j_9 : Nat → Value, K (0 : Int) w_8) (fun (v_10 : (Int × Unit)) w_11 => ∀ _j_12 : Nat → Value, K v_10.1 w_11) w_15) (0 : Int) w)))))

theorem eq_spec_l05Sizes (sizes0 : Value) (k1 : Int) (w : World) (K : Int → World → Prop) :
    W Try.prog ty O_spec_l05Sizes_1 (bodyOf Try.f74) (fnPost Try.prog Try.f74.results.toList (.one (.int .i64)) K) (frame0 [sizes0, (.int .i64 k1)] 22) w = V_spec_l05Sizes sizes0 k1 w K := by
  kernel_rfl

theorem body_spec_l05Sizes : Try.f74.body = some (bodyOf Try.f74) := by kernel_rfl
theorem name_spec_l05Sizes : (Try.f74.name == "runtime.NumGoroutine") = false := by kernel_rfl

theorem walk_spec_l05Sizes (sizes0 : Value) (k1 : Int) {w : World} {K : Int → World → Prop} (h : V_spec_l05Sizes sizes0 k1 w K) : Fc Try.prog 74 #[sizes0, (.int .i64 k1)] w (.one (.int .i64)) K :=
  fn_ok follows O_spec_l05Sizes_1_ok Try.func74 name_spec_l05Sizes body_spec_l05Sizes Try.ntmps74 [sizes0, (.int .i64 k1)] (Eq.mpr (eq_spec_l05Sizes sizes0 k1 w K) h)

-- uses S3Part
theorem c_spec_l05Sizes {a : Value} {l : List Int} {k : Int} {w : World} {K : Int → World → Prop} (ha : SlI w a l) (hK : K (if (l.length : Int) = k ∧ AllIn l 1 17 then 0 else 2) w) : Fc Try.prog F_spec_l05Sizes #[a, .int .i64 k] w (.one (.int .i64)) K := by
  have hll := ha.len
  refine walk_spec_l05Sizes _ _ (lenI ha ⟨fun h => ?_, fun h => ?_⟩)
  · rwa [if_neg (fun hh => ne_t h hh.1)] at hK
  have h := ne_f h
  refine lp (fun s w' => w' = w ∧ ∃ c : Nat, s = c ∧ c ≤ l.length ∧ ∀ d : Nat, d < c → 1 ≤ l.getD d 0 ∧ l.getD d 0 ≤ 17) (fun s _ => (l.length - s).toNat) ⟨rfl, 0, rfl, by omega, fun d hd => absurd hd (by omega)⟩ ?_
  rintro t w2 N ⟨rfl, c, hc, hcl, hall⟩ hN
  subst hc
  unfold B_spec_l05Sizes_4
  refine lenI ha ⟨fun hlt => ?_, fun hge => ?_⟩
  · have hlt := dec_t hlt
    refine atI ha (by omega) hlt (c_spec_l01In _ _ _ ⟨fun hno => ?_, fun hyes => ?_⟩)
    · rw [Int.toNat_natCast] at hno
      intro _
      rwa [if_neg (fun hh => notd_t hno (hh.2 _ (by
        have : c < l.length := by omega
        have e : l.getD c 0 = l[c] := by simp [List.getD, this]
        rw [e]; exact List.getElem_mem this)))] at hK
    · have hyes := notd_f hyes
      rw [Int.toNat_natCast] at hyes
      rw [wrap_small (by omega) (by omega)]
      refine hN _ _ ⟨rfl, c + 1, by omega, by omega, fun d hd => ?_⟩ (by omega)
      by_cases hdc : d < c
      · exact hall d hdc
      · have : d = c := by omega
        subst this; exact hyes
  · have hge := dec_f hge
    intro _
    rwa [if_pos ⟨h, fun x hx => by
      obtain ⟨d, hd, rfl⟩ := List.mem_iff_getElem.1 hx
      have := hall d (by omega)
      simpa [List.getD, hd] using this⟩] at hK

end Go.Proofs.Ytkadckhealbdaaa

/- The reading of spec_CountAvoiding, and its contract. No condition. -/
namespace Go.Proofs.Ytkadckhealbdaaa
open Go Go.RowKit Eng Mem
set_option linter.unusedVariables false
set_option maxRecDepth 100000
def V_spec_CountAvoiding (n0 : Int) (sizes1 : Value) (w : World) (K : (Int × Int) → World → Prop) : Prop :=
  (QAll Try.prog (Builtin.len_ #[31] 3 #[sizes1]) (.int .i64) fun (x10_1 : Int) => (((decide (x10_1 > (2 : Int))) = true → (Fc Try.prog 43 #[(.int .i64 x10_1), (.int .i64 (1 : Int)), (.int .i64 (4 : Int))] w (.one .bool) fun (x16_3 : Bool) w_2 => (((!x16_3) = true → K ((0 : Int), (2 : Int)) w_2) ∧ ((!x16_3) = false → (Fc Try.prog 43 #[(.int .i64 n0), (.int .i64 (1 : Int)), (.int .i64 (IntKind.i64.wrap ((8 : Int) - x10_1)))] w_2 (.one .bool) fun (x21_5 : Bool) w_4 => (((!x21_5) = true → K ((0 : Int), (2 : Int)) w_4) ∧ ((!x21_5) = false → (Fc Try.prog 74 #[sizes1, (.int .i64 x10_1)] w_4 (.one (.int .i64)) fun (x27_7 : Int) w_6 => (((x27_7 != (0 : Int)) = true → K ((0 : Int), (2 : Int)) w_6) ∧ ((x27_7 != (0 : Int)) = false → (Pr Try.prog (Instr.build 25 #[(0, (.int .i64 (1 : Int))), (1, (.int .i64 x10_1))]) w_6 (.one .any) fun (x31_9 : Value) w_8 => (Pr Try.prog (Instr.alloc 25 true (.tuple #[])) w_8 (.one .any) fun (x8_11 : Value) w_10 => (PrU Try.prog (Instr.storeAt 25 x8_11 x31_9) w_10 fun w_12 => (QSub Try.prog (Instr.loadAt 25 x8_11) w_12 .any fun (x32_14 : Value) => (Fc Try.prog 75 #[x32_14, sizes1] w_12 (.one .bool) fun (x34_16 : Bool) w_15 => (((!x34_16) = true → K ((0 : Int), (0 : Int)) w_15) ∧ ((!x34_16) = false → (QSub Try.prog (Instr.loadAt 25 x8_11) w_15 .any fun (x36_17 : Value) => (Fc Try.prog 76 #[x36_17, (.int .i64 n0), sizes1] w_15 (.one (.int .i64)) fun (x39_19 : Int) w_18 => K (x39_19, (0 : Int)) w_18))))))))))))))))))) ∧ ((decide (x10_1 > (2 : Int))) = false → (Fc Try.prog 43 #[(.int .i64 x10_1), (.int .i64 (1 : Int)), (.int .i64 (4 : Int))] w (.one .bool) fun (x16_21 : Bool) w_20 => (((!x16_21) = true → K ((0 : Int), (2 : Int)) w_20) ∧ ((!x16_21) = false → (Fc Try.prog 43 #[(.int .i64 n0), (.int .i64 (1 : Int)), (.int .i64 (6 : Int))] w_20 (.one .bool) fun (x21_23 : Bool) w_22 => (((!x21_23) = true → K ((0 : Int), (2 : Int)) w_22) ∧ ((!x21_23) = false → (Fc Try.prog 74 #[sizes1, (.int .i64 x10_1)] w_22 (.one (.int .i64)) fun (x27_25 : Int) w_24 => (((x27_25 != (0 : Int)) = true → K ((0 : Int), (2 : Int)) w_24) ∧ ((x27_25 != (0 : Int)) = false → (Pr Try.prog (Instr.build 25 #[(0, (.int .i64 (1 : Int))), (1, (.int .i64 x10_1))]) w_24 (.one .any) fun (x31_27 : Value) w_26 => (Pr Try.prog (Instr.alloc 25 true (.tuple #[])) w_26 (.one .any) fun (x8_29 : Value) w_28 => (PrU Try.prog (Instr.storeAt 25 x8_29 x31_27) w_28 fun w_30 => (QSub Try.prog (Instr.loadAt 25 x8_29) w_30 .any fun (x32_32 : Value) => (Fc Try.prog 75 #[x32_32, sizes1] w_30 (.one .bool) fun (x34_34 : Bool) w_33 => (((!x34_34) = true → K ((0 : Int), (0 : Int)) w_33) ∧ ((!x34_34) = false → (QSub Try.prog (Instr.loadAt 25 x8_29) w_33 .any fun (x36_35 : Value) => (Fc Try.prog 76 #[x36_35, (.int .i64 n0), sizes1] w_33 (.one (.int .i64)) fun (x39_37 : Int) w_36 => K (x39_37, (0 : Int)) w_36)))))))))))))))))))))

theorem eq_spec_CountAvoiding (n0 : Int) (sizes1 : Value) (w : World) (K : (Int × Int) → World → Prop) :
    W Try.prog ty (fun _ _ _ _ => False) (bodyOf Try.f34) (fnPost Try.prog Try.f34.results.toList (.two (.int .i64) (.int .i64)) K) (frame0 [(.int .i64 n0), sizes1] 40) w = V_spec_CountAvoiding n0 sizes1 w K := by
  kernel_rfl

theorem body_spec_CountAvoiding : Try.f34.body = some (bodyOf Try.f34) := by kernel_rfl
theorem name_spec_CountAvoiding : (Try.f34.name == "runtime.NumGoroutine") = false := by kernel_rfl

theorem walk_spec_CountAvoiding (n0 : Int) (sizes1 : Value) {w : World} {K : (Int × Int) → World → Prop} (h : V_spec_CountAvoiding n0 sizes1 w K) : Fc Try.prog 34 #[(.int .i64 n0), sizes1] w (.two (.int .i64) (.int .i64)) K :=
  fn_ok follows (sound_none _) Try.func34 name_spec_CountAvoiding body_spec_CountAvoiding Try.ntmps34 [(.int .i64 n0), sizes1] (Eq.mpr (eq_spec_CountAvoiding n0 sizes1 w K) h)

-- uses S9AvoS
theorem c_spec_CountAvoiding {n : Int} {a : Value} {l : List Int} {w : World} {K : Int × Int → World → Prop} (_ : I64 n) (ha : ArgI w a l)
    (hK : ∀ w', Below w.heap.size w w' → K ((cntA n l).1, (cntA n l).2) w') : Fc Try.prog F_spec_CountAvoiding #[.int .i64 n, a] w (.two (.int .i64) (.int .i64)) K := by
  unfold cntA at hK
  have no : ¬ AvoIs n l → K (0, 2) w := fun h => by
    rw [if_neg h] at hK
    exact hK w (Below.refl _ _)
  have main : AvoIs n l → Pr Try.prog (Instr.build tC #[(0, .int .i64 1), (1, .int .i64 (l.length : Int))]) w (.one .any) fun x31 w_8 => Pr Try.prog (Instr.alloc tC true (.tuple #[])) w_8 (.one .any) fun x8 w_10 => PrU Try.prog (Instr.storeAt tC x8 x31) w_10 fun w_12 => QSub Try.prog (Instr.loadAt tC x8) w_12 .any fun x32 => Fc Try.prog F_spec_l05Avoids #[x32, a] w_12 (.one .bool) fun x34 w_15 =>
      ((!x34) = true → K (0, 0) w_15) ∧ ((!x34) = false → QSub Try.prog (Instr.loadAt tC x8) w_15 .any fun x36 => Fc Try.prog F_spec_l05Number #[x36, .int .i64 n, a] w_15 (.one (.int .i64)) fun x39 w_18 => K (x39, 0) w_18) := fun hA => by
    rw [if_pos hA] at hK
    have hk := hA.1; have hn := hA.2.2
    have hok : (colE 1 l.length []).Ok := colE_ok (by omega) (by omega) (by simp) (by simp)
    have hmo : mostA l.length ≤ 6 := by unfold mostA; split <;> omega
    refine build2 (col_var (c := colE 1 l.length []) hok fun b w1 hb hb2 q1 ac => col_all hok ac (c_spec_l05Avoids (k := l.length) rfl (by omega) (ha.sl.keep q1) hA.2.1 fun w2 q2 => ?_))
    have q12 := q1.trans (q2.mono q1.size)
    unfold allE at hK
    refine ⟨fun h => ?_, fun h => col_all hok (ac.keep q2) ?_⟩
    · have h1 : (1 : Int) ∈ l := by simpa using h
      rw [if_pos h1] at hK
      exact hK w2 q12
    · have h1 : (1 : Int) ∉ l := by simpa using h
      rw [if_neg h1] at hK
      have e6 := edgesOf_mono (j := n) (n := 6) (by omega) (by omega)
      rw [show edgesOf 6 = 15 from by decide] at e6
      have hbd : (extE l l.length (edgesOf n).toNat []).length ≤ 1073741824 := by
        refine Nat.le_trans (extE_len l l.length (edgesOf n).toNat []) ?_
        exact Nat.le_trans (Nat.pow_le_pow_left (show l.length ≤ 4 by omega) _) (Nat.le_trans (Nat.pow_le_pow_right (by omega) (show (edgesOf n).toNat ≤ 15 by omega)) (by decide))
      have hN := fun K' => c_spec_l05Number (n := n) (k := l.length) (l := l) (a := a) (by omega) rfl (by omega) hA.2.1 h1 (fun P h1 h2 => Nat.lt_of_le_of_lt (Nat.le_trans (Nat.pow_le_pow_left (show l.length ≤ 4 by omega) _) (Nat.pow_le_pow_right (by omega) (show P.toNat ≤ 5 by omega))) (by decide)) (n - 1).toNat 1 [] w2 K' (by omega) (by omega) (by decide) (by simp) (ha.sl.keep q12)
      simp only [List.length_nil, Nat.sub_zero] at hN
      exact hN _ hbd fun w3 q3 => hK w3 (q12.trans (q3.mono q12.size))
  have sizes : ((1 : Int) ≤ l.length ∧ (l.length : Int) ≤ 4) → (1 ≤ n ∧ n ≤ mostA l.length) → AllIn l 1 17 → AvoIs n l := fun h1 h2 h3 => ⟨by omega, h3, h2⟩
  refine walk_spec_CountAvoiding _ _ (lenI ha.sl ⟨fun hgt => ?_, fun hle => ?_⟩)
  · have hgt := dec_t hgt
    have hmo : mostA l.length = 8 - l.length := by unfold mostA; rw [if_neg (by omega)]
    refine c_spec_l01In _ _ _ ⟨fun h => no fun hA => notd_t h (by have := hA.1; omega), fun h => ?_⟩
    have h := notd_f h
    rw [wrap_small (n := 8 - (l.length : Int)) (by omega) (by omega), ← hmo]
    refine c_spec_l01In _ _ _ ⟨fun h2 => no fun hA => notd_t h2 hA.2.2, fun h2 => c_spec_l05Sizes ha.sl ?_⟩
    have h2 := notd_f h2
    by_cases h3 : AllIn l 1 17
    · rw [if_pos ⟨rfl, h3⟩]
      exact ⟨fun hh => absurd rfl (ne_t hh), fun _ => main (sizes h h2 h3)⟩
    · rw [if_neg (fun hh => h3 hh.2)]
      exact ⟨fun _ => no fun hA => h3 hA.2.1, fun hh => absurd (ne_f hh) (by omega)⟩
  · have hle := dec_f hle
    have hmo : mostA l.length = 6 := by unfold mostA; rw [if_pos (by omega)]
    refine c_spec_l01In _ _ _ ⟨fun h => no fun hA => notd_t h (by have := hA.1; omega), fun h => ?_⟩
    have h := notd_f h
    refine c_spec_l01In _ _ _ ⟨fun h2 => no fun hA => notd_t h2 (by have := hA.2.2; omega), fun h2 => c_spec_l05Sizes ha.sl ?_⟩
    have h2 := notd_f h2
    by_cases h3 : AllIn l 1 17
    · rw [if_pos ⟨rfl, h3⟩]
      exact ⟨fun hh => absurd rfl (ne_t hh), fun _ => main (sizes h (by omega) h3)⟩
    · rw [if_neg (fun hh => h3 hh.2)]
      exact ⟨fun _ => no fun hA => h3 hA.2.1, fun hh => absurd (ne_f hh) (by omega)⟩

end Go.Proofs.Ytkadckhealbdaaa

/- The reading of laws_FnExactCountAvoiding, and its contract. No condition. -/
namespace Go.Proofs.Ytkadckhealbdaaa
open Go Go.RowKit Eng Mem
set_option linter.unusedVariables false
set_option maxRecDepth 100000
def V_laws_FnExactCountAvoiding (aN0 : Int) (aSizes1 : Value) (w : World) (K : Bool → World → Prop) : Prop :=
  (QAll Try.prog (Builtin.len_ #[31] 3 #[aSizes1]) (.int .i64) fun (x11_1 : Int) => (((decide (x11_1 > (1048576 : Int))) = true → K true w) ∧ ((decide (x11_1 > (1048576 : Int))) = false → (Fc Try.prog 24 #[aSizes1] w (.one .any) fun (x16_3 : Value) w_2 => (Fc Try.prog 34 #[(.int .i64 aN0), x16_3] w_2 (.two (.int .i64) (.int .i64)) fun (x17_5 : Int × Int) w_4 => (Fc Try.prog 24 #[aSizes1] w_4 (.one .any) fun (x21_7 : Value) w_6 => (Fc Try.prog 35 #[(.int .i64 aN0), x21_7] w_6 (.two (.int .i64) (.int .i64)) fun (x25_9 : Int × Int) w_8 => (((x25_9.1 != x17_5.1) = true → K false w_8) ∧ ((x25_9.1 != x17_5.1) = false → (((x25_9.2 != x17_5.2) = true → K false w_8) ∧ ((x25_9.2 != x17_5.2) = false → (Fc Try.prog 24 #[aSizes1] w_8 (.one .any) fun (x38_11 : Value) w_10 => (Fc Try.prog 20 #[x21_7, x38_11] w_10 (.one .bool) fun (x39_13 : Bool) w_12 => (((!x39_13) = true → K false w_12) ∧ ((!x39_13) = false → K true w_12)))))))))))))))

theorem eq_laws_FnExactCountAvoiding (aN0 : Int) (aSizes1 : Value) (w : World) (K : Bool → World → Prop) :
    W Try.prog ty (fun _ _ _ _ => False) (bodyOf Try.f10) (fnPost Try.prog Try.f10.results.toList (.one .bool) K) (frame0 [(.int .i64 aN0), aSizes1] 41) w = V_laws_FnExactCountAvoiding aN0 aSizes1 w K := by
  kernel_rfl

theorem body_laws_FnExactCountAvoiding : Try.f10.body = some (bodyOf Try.f10) := by kernel_rfl
theorem name_laws_FnExactCountAvoiding : (Try.f10.name == "runtime.NumGoroutine") = false := by kernel_rfl

theorem walk_laws_FnExactCountAvoiding (aN0 : Int) (aSizes1 : Value) {w : World} {K : Bool → World → Prop} (h : V_laws_FnExactCountAvoiding aN0 aSizes1 w K) : Fc Try.prog 10 #[(.int .i64 aN0), aSizes1] w (.one .bool) K :=
  fn_ok follows (sound_none _) Try.func10 name_laws_FnExactCountAvoiding body_laws_FnExactCountAvoiding Try.ntmps10 [(.int .i64 aN0), aSizes1] (Eq.mpr (eq_laws_FnExactCountAvoiding aN0 aSizes1 w K) h)

-- uses S2Sl
-- uses S9Law
theorem c_laws_FnExactCountAvoiding {n0 : Int} {a1 : Value} {l1 : List Int} {w : World} {K : Bool → World → Prop} (h0 : I64 n0) (h1 : SlI w a1 l1 ∧ InI l1) (hK : ∀ w', Below w.heap.size w w' → K true w') :
    Fc Try.prog F_laws_FnExactCountAvoiding #[.int .i64 n0, a1] w (.one .bool) K := by
  refine walk_laws_FnExactCountAvoiding _ _ ?_
  have B := Below.refl w.heap.size w
  refine lenI h1.1 ?_
  refine ⟨fun _ => hK _ B, fun e1 => ?_⟩
  have e1 := dec_f e1
  replace h1 : ArgI _ _ _ := ⟨h1.1, by first | omega | (have := h1.1.len; omega), h1.2⟩
  have h10 := h1
  refine c_laws_toInt64S h1 fun v5 w2 q3 f4 => ?_
  replace h1 := h1.keep q3
  replace B := B.trans (q3.mono B.size)
  have f4_in := h1.ins
  have q3_s := q3.size
  refine c_spec_CountAvoiding h0 ⟨f4.sl, h1.len, h1.ins⟩ fun w6 q7 => ?_
  replace h1 := h1.keep q7
  replace f4 := f4.keep q7
  replace B := B.trans (q7.mono B.size)
  have q7_s := q7.size
  refine c_laws_toInt64S h1 fun v13 w10 q11 f12 => ?_
  replace h1 := h1.keep q11
  replace f4 := f4.keep q11
  replace B := B.trans (q11.mono B.size)
  have f12_in := h1.ins
  have q11_s := q11.size
  refine c_impl_CountAvoiding h0 ⟨f12.sl, h1.len, h1.ins⟩ fun w14 q15 => ?_
  replace h1 := h1.keep q15
  replace f4 := f4.keep q15
  replace f12 := f12.keep q15
  replace B := B.trans (q15.mono B.size)
  have q15_s := q15.size
  refine ⟨fun e18 => absurd rfl (ne_t e18), fun _ => ?_⟩
  refine ⟨fun e19 => absurd rfl (ne_t e19), fun _ => ?_⟩
  refine c_laws_toInt64S h1 fun v23 w20 q21 f22 => ?_
  replace h1 := h1.keep q21
  replace f4 := f4.keep q21
  replace f12 := f12.keep q21
  replace B := B.trans (q21.mono B.size)
  have f22_in := h1.ins
  have q21_s := q21.size
  refine c_laws_eqInt64S f12.sl f22.sl fun w24 q25 => ?_
  replace h1 := h1.keep q25
  replace f4 := f4.keep q25
  replace f12 := f12.keep q25
  replace f22 := f22.keep q25
  replace B := B.trans (q25.mono B.size)
  have q25_s := q25.size
  refine ⟨fun e27 => absurd rfl (notd_t e27), fun _ => ?_⟩
  exact hK _ B

end Go.Proofs.Ytkadckhealbdaaa
