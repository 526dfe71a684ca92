/- The reading of spec_l01Renamed, and its contract. No condition. -/
import Derived.Test.YtdkodhonaoecnaaTy
import Derived.Test.YtdkodhonaoecnaaS8Ren
import Derived.Test.YtdkodhonaoecnaaFspecUl01At
import Derived.Test.YtdkodhonaoecnaaFspecUl01Edge
namespace Go.Proofs.Ytdkodhonaoecnaa
open Go Go.RowKit Eng Mem
set_option linter.unusedVariables false
set_option maxRecDepth 100000
def B_spec_l01Renamed_6 (p1 : Value) (x2 : Value) (x4 : Value) (out5 : Value) (j6 : Int) (i7 : Int) (N : (Value × Value × Value × Value × Int) → Int → World → Prop) (D2 : (Value × Value × Value × Value × Int × Unit) → World → Prop) (w : World) : Prop :=
  (((decide (i7 < j6)) = true → (∀ w_17, Drew w w_17 → (QAll Try.prog (Instr.indexAt 25 p1 (.int .i64 i7)) .any fun (x26_18 : Value) => (QSub Try.prog (Instr.loadAt 2 x26_18) w_17 (.int .i64) fun (x27_19 : Int) => (QAll Try.prog (Instr.indexAt 25 p1 (.int .i64 j6)) .any fun (x30_20 : Value) => (QSub Try.prog (Instr.loadAt 2 x30_20) w_17 (.int .i64) fun (x31_21 : Int) => (QSub Try.prog (Instr.loadAt 28 x2) w_17 .any fun (x33_22 : Value) => (QAll Try.prog (Instr.fieldAt 28 out5 2) .any fun (x38_23 : Value) => (Fc Try.prog 66 #[(.int .i64 x27_19), (.int .i64 x31_21)] w_17 (.one (.int .i64)) fun (x32_25 : Int) w_24 => (Keeps w_17 w_24 ((Fc Try.prog 65 #[x33_22, (.int .i64 i7), (.int .i64 j6)] w_24 (.one (.int .i64)) fun (x36_27 : Int) w_26 => (Keeps w_17 w_26 ((QAll Try.prog (convert 2 5 (.int .i64 x36_27)) (.int .u8) fun (x37_28 : Int) => (QAll Try.prog (Instr.indexAt 26 x38_23 (.int .i64 x32_25)) .any fun (x39_29 : Value) => (PrU Try.prog (Instr.storeAt 5 x39_29 (.int .u8 x37_28)) w_26 fun w_30 => N ((p1 : Value), (x2 : Value), (x4 : Value), (out5 : Value), j6) (IntKind.i64.wrap (i7 + (1 : Int))) w_30))))))))))))))))) ∧ ((decide (i7 < j6)) = false → D2 ((p1 : Value), (x2 : Value), (x4 : Value), (out5 : Value), j6, ()) w))

abbrev L_spec_l01Renamed_6_e2 : List Slot := [.junk, .k .any, .k .any, .junk, .k .any, .k .any, .k (.int .i64), .junk, .junk, .junk, .junk, .junk, .junk, .junk, .junk, .junk, .junk, .junk, .junk, .junk, .junk, .junk, .junk, .junk, .junk, .junk, .junk, .junk, .junk, .junk, .junk, .junk, .junk, .junk, .junk, .junk, .junk, .junk, .junk, .junk, .junk]

abbrev L_spec_l01Renamed_6_sp : List Slot := [.junk, .k .any, .k .any, .junk, .k .any, .k .any, .k (.int .i64), .k (.int .i64), .junk, .junk, .junk, .junk, .junk, .junk, .junk, .junk, .junk, .junk, .junk, .junk, .junk, .junk, .junk, .junk, .junk, .junk, .junk, .junk, .junk, .junk, .junk, .junk, .junk, .junk, .junk, .junk, .junk, .junk, .junk, .junk, .junk]
abbrev L_spec_l01Renamed_6_ex : List (Nat × List Slot) := [(2, L_spec_l01Renamed_6_e2)]
abbrev L_spec_l01Renamed_6_rt : List Slot := [.junk, .junk, .junk, .junk, .junk, .junk, .junk, .junk, .junk, .junk, .junk, .junk, .junk, .junk, .junk, .junk, .junk, .junk, .junk, .junk, .junk, .junk, .junk, .junk, .junk, .junk, .junk, .junk, .junk, .junk, .junk, .junk, .junk, .junk, .junk, .junk, .junk, .junk, .junk, .junk, .junk]

def L_spec_l01Renamed_6_b (Φ : Post) (u : (Value × Value × Value × Value × Int)) (N : (Value × Value × Value × Value × Int) → Int → World → Prop) (s : Int) (w : World) : Prop :=
  B_spec_l01Renamed_6 u.1 u.2.1 u.2.2.1 u.2.2.2.1 u.2.2.2.2 s N (fun v w => ∀ j : Nat → Value, Φ (.exit 2) (mkT j 0 L_spec_l01Renamed_6_e2 v) w) w

theorem L_spec_l01Renamed_6_eq (j : Nat → Value) (u : (Value × Value × Value × Value × Int)) (s : Int) (N : (Value × Value × Value × Value × Int) → Int → World → Prop) (D2 : (Value × Value × Value × Value × Int × Unit) → World → Prop) (R : (Unit) → World → Prop) (w : World) :
    W Try.prog ty (fun _ _ _ _ => False) (loopAt Try.f88 6) (loopPost L_spec_l01Renamed_6_sp [(2, (⟨L_spec_l01Renamed_6_e2, D2⟩ : Door))] ⟨L_spec_l01Renamed_6_rt, R⟩ (fun v w => N ((fun v => (v.1, v.2.1, v.2.2.1, v.2.2.2.1, v.2.2.2.2.1)) v) ((fun v => v.2.2.2.2.2.1) v) w)) (mkT j 0 L_spec_l01Renamed_6_sp ((fun u s => (u.1, u.2.1, u.2.2.1, u.2.2.2.1, u.2.2.2.2, s, ())) u s)) w =
    B_spec_l01Renamed_6 u.1 u.2.1 u.2.2.1 u.2.2.2.1 u.2.2.2.2 s N D2 w := by
  kernel_rfl

def O_spec_l01Renamed_1 : Code → Post → List SV → World → Prop :=
  orc 6 (loopAt Try.f88 6) L_spec_l01Renamed_6_sp (fun Φ fr w => LOOP (U := (Value × Value × Value × Value × Int)) (S := Int) ((fun v => (v.1, v.2.1, v.2.2.1, v.2.2.2.1, v.2.2.2.2.1)) (extT L_spec_l01Renamed_6_sp fr)) (L_spec_l01Renamed_6_b Φ ((fun v => (v.1, v.2.1, v.2.2.1, v.2.2.2.1, v.2.2.2.2.1)) (extT L_spec_l01Renamed_6_sp fr))) ((fun v => v.2.2.2.2.2.1) (extT L_spec_l01Renamed_6_sp fr)) w) (fun _ _ _ _ => False)

theorem O_spec_l01Renamed_1_ok : Sound Try.prog O_spec_l01Renamed_1 :=
  orc_ok (sound_none _) fun Φ fr w hs h => loop_ok (ty := ty) follows (sound_none _) L_spec_l01Renamed_6_sp (fun v => (v.1, v.2.1, v.2.2.1, v.2.2.2.1, v.2.2.2.2.1)) (fun v => v.2.2.2.2.2.1) (fun u s => (u.1, u.2.1, u.2.2.1, u.2.2.2.1, u.2.2.2.2, s, ())) (fun _ => rfl) L_spec_l01Renamed_6_ex L_spec_l01Renamed_6_rt (body := L_spec_l01Renamed_6_b Φ) (fun j u s w N hb => by
    have e := L_spec_l01Renamed_6_eq j u s N (doorOf Φ (.exit 2) L_spec_l01Renamed_6_e2).D (doorOf Φ .ret L_spec_l01Renamed_6_rt).D w
    exact Eq.mpr e hb) hs h

def B_spec_l01Renamed_3 (p1 : Value) (x2 : Value) (x4 : Value) (out5 : Value) (j6 : Int) (N : (Value × Value × Value × Value) → Int → World → Prop) (D0 : (Value × Value × Unit) → World → Prop) (w : World) : Prop :=
  (QAll Try.prog (Instr.fieldAt 28 x2 0) .any fun (x14_15 : Value) => (QSub Try.prog (Instr.loadAt 2 x14_15) w (.int .i64) fun (x15_16 : Int) => (((decide (j6 < x15_16)) = true → (At (loopAt Try.f88 6) (loopAt Try.f88 6) (LOOP (U := (Value × Value × Value × Value × Int)) (S := Int) ((p1 : Value), (x2 : Value), (x4 : Value), (out5 : Value), j6) (fun N_35 s_36 w_37 => B_spec_l01Renamed_6 (p1 : Value) (x2 : Value) (x4 : Value) (out5 : Value) j6 s_36 N_35 (fun (v_32 : (Value × Value × Value × Value × Int × Unit)) w_33 => ∀ _j_34 : Nat → Value, N ((v_32.1 : Value), (v_32.2.1 : Value), (v_32.2.2.1 : Value), (v_32.2.2.2.1 : Value)) (IntKind.i64.wrap (v_32.2.2.2.2.1 + (1 : Int))) w_33) w_37) (0 : Int) w))) ∧ ((decide (j6 < x15_16)) = false → D0 ((x4 : Value), (out5 : Value), ()) w))))

abbrev L_spec_l01Renamed_3_e0 : List Slot := [.junk, .junk, .junk, .junk, .k .any, .k .any, .junk, .junk, .junk, .junk, .junk, .junk, .junk, .junk, .junk, .junk, .junk, .junk, .junk, .junk, .junk, .junk, .junk, .junk, .junk, .junk, .junk, .junk, .junk, .junk, .junk, .junk, .junk, .junk, .junk, .junk, .junk, .junk, .junk, .junk, .junk]

abbrev L_spec_l01Renamed_3_sp : List Slot := [.junk, .k .any, .k .any, .junk, .k .any, .k .any, .k (.int .i64), .junk, .junk, .junk, .junk, .junk, .junk, .junk, .junk, .junk, .junk, .junk, .junk, .junk, .junk, .junk, .junk, .junk, .junk, .junk, .junk, .junk, .junk, .junk, .junk, .junk, .junk, .junk, .junk, .junk, .junk, .junk, .junk, .junk, .junk]
abbrev L_spec_l01Renamed_3_ex : List (Nat × List Slot) := [(0, L_spec_l01Renamed_3_e0)]
abbrev L_spec_l01Renamed_3_rt : List Slot := [.junk, .junk, .junk, .junk, .junk, .junk, .junk, .junk, .junk, .junk, .junk, .junk, .junk, .junk, .junk, .junk, .junk, .junk, .junk, .junk, .junk, .junk, .junk, .junk, .junk, .junk, .junk, .junk, .junk, .junk, .junk, .junk, .junk, .junk, .junk, .junk, .junk, .junk, .junk, .junk, .junk]

def L_spec_l01Renamed_3_b (Φ : Post) (u : (Value × Value × Value × Value)) (N : (Value × Value × Value × Value) → Int → World → Prop) (s : Int) (w : World) : Prop :=
  B_spec_l01Renamed_3 u.1 u.2.1 u.2.2.1 u.2.2.2 s N (fun v w => ∀ j : Nat → Value, Φ (.exit 0) (mkT j 0 L_spec_l01Renamed_3_e0 v) w) w

theorem L_spec_l01Renamed_3_eq (j : Nat → Value) (u : (Value × Value × Value × Value)) (s : Int) (N : (Value × Value × Value × Value) → Int → World → Prop) (D0 : (Value × Value × Unit) → World → Prop) (R : (Unit) → World → Prop) (w : World) :
    W Try.prog ty O_spec_l01Renamed_1 (loopAt Try.f88 3) (loopPost L_spec_l01Renamed_3_sp [(0, (⟨L_spec_l01Renamed_3_e0, D0⟩ : Door))] ⟨L_spec_l01Renamed_3_rt, R⟩ (fun v w => N ((fun v => (v.1, v.2.1, v.2.2.1, v.2.2.2.1)) v) ((fun v => v.2.2.2.2.1) v) w)) (mkT j 0 L_spec_l01Renamed_3_sp ((fun u s => (u.1, u.2.1, u.2.2.1, u.2.2.2, s, ())) u s)) w =
    B_spec_l01Renamed_3 u.1 u.2.1 u.2.2.1 u.2.2.2 s N D0 w := by
  kernel_rfl

def O_spec_l01Renamed_2 : Code → Post → List SV → World → Prop :=
  orc 3 (loopAt Try.f88 3) L_spec_l01Renamed_3_sp (fun Φ fr w => LOOP (U := (Value × Value × Value × Value)) (S := Int) ((fun v => (v.1, v.2.1, v.2.2.1, v.2.2.2.1)) (extT L_spec_l01Renamed_3_sp fr)) (L_spec_l01Renamed_3_b Φ ((fun v => (v.1, v.2.1, v.2.2.1, v.2.2.2.1)) (extT L_spec_l01Renamed_3_sp fr))) ((fun v => v.2.2.2.2.1) (extT L_spec_l01Renamed_3_sp fr)) w) O_spec_l01Renamed_1

theorem O_spec_l01Renamed_2_ok : Sound Try.prog O_spec_l01Renamed_2 :=
  orc_ok O_spec_l01Renamed_1_ok fun Φ fr w hs h => loop_ok (ty := ty) follows O_spec_l01Renamed_1_ok L_spec_l01Renamed_3_sp (fun v => (v.1, v.2.1, v.2.2.1, v.2.2.2.1)) (fun v => v.2.2.2.2.1) (fun u s => (u.1, u.2.1, u.2.2.1, u.2.2.2, s, ())) (fun _ => rfl) L_spec_l01Renamed_3_ex L_spec_l01Renamed_3_rt (body := L_spec_l01Renamed_3_b Φ) (fun j u s w N hb => by
    have e := L_spec_l01Renamed_3_eq j u s N (doorOf Φ (.exit 0) L_spec_l01Renamed_3_e0).D (doorOf Φ .ret L_spec_l01Renamed_3_rt).D w
    exact Eq.mpr e hb) hs h

def V_spec_l01Renamed (x0 : Value) (p1 : Value) (w : World) (K : Value → World → Prop) : Prop :=
  (Pr Try.prog (Instr.box 28 x0) w (.one .any) fun (x2_2 : Value) w_1 => (Pr Try.prog (Instr.alloc 28 true (.tuple #[])) w_1 (.one .any) fun (x4_4 : Value) w_3 => (QAll Try.prog (Instr.fieldAt 28 x2_2 0) .any fun (x8_5 : Value) => (QSub Try.prog (Instr.loadAt 2 x8_5) w_3 (.int .i64) fun (x9_6 : Int) => (QAll Try.prog (Instr.fieldAt 28 x2_2 1) .any fun (x10_7 : Value) => (QSub Try.prog (Instr.loadAt 2 x10_7) w_3 (.int .i64) fun (x11_8 : Int) => (Pr Try.prog (Instr.build 28 #[(0, (.int .i64 x9_6)), (1, (.int .i64 x11_8))]) w_3 (.one .any) fun (x12_10 : Value) w_9 => (Pr Try.prog (Instr.alloc 28 true (.tuple #[])) w_9 (.one .any) fun (out5_12 : Value) w_11 => (PrU Try.prog (Instr.storeAt 28 out5_12 x12_10) w_11 fun w_13 => (At (loopAt Try.f88 3) (loopAt Try.f88 3) (LOOP (U := (Value × Value × Value × Value)) (S := Int) ((p1 : Value), (x2_2 : Value), (x4_4 : Value), (out5_12 : Value)) (fun N_45 s_46 w_47 => B_spec_l01Renamed_3 (p1 : Value) (x2_2 : Value) (x4_4 : Value) (out5_12 : Value) s_46 N_45 (fun (v_38 : (Value × Value × Unit)) w_39 => ∀ _j_40 : Nat → Value, (QSub Try.prog (Instr.loadAt 28 v_38.2.1) w_39 .any fun (x40_41 : Value) => (PrU Try.prog (Instr.storeAt 28 v_38.1 x40_41) w_39 fun w_42 => (QSub Try.prog (Instr.loadAt 28 v_38.1) w_42 .any fun (r_44 : Value) => K (r_44 : Value) w_42)))) w_47) (1 : Int) w_13)))))))))))

theorem eq_spec_l01Renamed (x0 : Value) (p1 : Value) (w : World) (K : Value → World → Prop) :
    W Try.prog ty O_spec_l01Renamed_2 (bodyOf Try.f88) (fnPost Try.prog Try.f88.results.toList (.one .any) K) (frame0 [x0, p1] 41) w = V_spec_l01Renamed x0 p1 w K := by
  kernel_rfl

theorem body_spec_l01Renamed : Try.f88.body = some (bodyOf Try.f88) := by kernel_rfl
theorem name_spec_l01Renamed : (Try.f88.name == "runtime.NumGoroutine") = false := by kernel_rfl

theorem walk_spec_l01Renamed (x0 : Value) (p1 : Value) {w : World} {K : Value → World → Prop} (h : V_spec_l01Renamed x0 p1 w K) : Fc Try.prog 88 #[x0, p1] w (.one .any) K :=
  fn_ok follows O_spec_l01Renamed_2_ok Try.func88 name_spec_l01Renamed body_spec_l01Renamed Try.ntmps88 [x0, p1] (Eq.mpr (eq_spec_l01Renamed x0 p1 w K) h)

-- uses S8Ren
theorem c_spec_l01Renamed {a : Value} {c : Col} {p : List Int} {w : World} {K : Value → World → Prop} (hc : c.Ok) (n0 : 1 ≤ c.n) (n1 : c.n ≤ 17) (ha : SlI w a p) (hp : PermL p c.n)
    (hK : ∀ w', Below w.heap.size w w' → K (renC c p).val w') : Fc Try.prog F_spec_l01Renamed #[c.val, a] w (.one .any) K := by
  refine walk_spec_l01Renamed _ _ (col_box fun bx w1 m1 hx => c_alloc fun r w2 q2 hv => ?_)
  have q12 := m1.below.trans (q2.mono m1.below.size)
  have hx2 := hx.keep q2
  have hs1 := m1.below.size
  have hs2 := q12.size
  have hv2 := hv.mono hs1
  refine col_n hx2 (col_k hx2 (build2 (allocA yC fun b w3 n3 => ?_)))
  have e3 := n3.here
  have s3 := n3.size
  have hne := hv2.ne (Nat.le_of_eq e3.symm)
  refine stA0 yC n3.at_ (by simp [Col.cells, zC, zA]) (by simp [Col.cells, zC, zA]) (Col.cells_one _) fun w4 m4 s4 h4 => ?_
  have hv4 := (hv2.keep n3.below).mod m4 hne
  have q4 : Below w.heap.size w w4 := (q12.trans (n3.below.mono hs2)).trans (m4.below (by omega) (by simp; omega))
  have hx4 : ColAt w4 (ptr bx 0) c := (hx2.keep n3.below).mod m4 (by simp; have := at_lt m1.at_; have := q2.size; omega)
  have hlb : w.heap.size ≤ b := by omega
  have hle := hp.len
  have e1 := m1.here; have s1 := m1.size
  have hz2 := q2.size
  refine lp (fun j w' => 1 ≤ j ∧ j ≤ c.n ∧ Below w.heap.size w w' ∧ CVar w.heap.size w' r ∧ BlkC w' b ⟨c.n, c.k, renE c p (edgesOf j).toNat⟩ ∧ ColAt w' (ptr bx 0) c) (fun j _ => (c.n - j).toNat)
    ⟨by omega, by omega, q4, hv4, by rw [show (edgesOf 1).toNat = 0 from by decide]; exact h4, hx4⟩ ?_
  rintro j w5 N ⟨j0, j1, q5, hv5, h5, hx5⟩ hN
  unfold B_spec_l01Renamed_3
  refine col_n hx5 ⟨fun hlt => ?_, fun hge => ?_⟩
  · have hlt := dec_t hlt
    refine lp (fun i w' => 0 ≤ i ∧ i ≤ j ∧ Below w.heap.size w w' ∧ CVar w.heap.size w' r ∧ BlkC w' b ⟨c.n, c.k, renE c p (edgesOf j + i).toNat⟩ ∧ ColAt w' (ptr bx 0) c) (fun i _ => (j - i).toNat)
      ⟨by omega, by omega, q5, hv5, by rw [Int.add_zero]; exact h5, hx5⟩ ?_
    rintro i w6 N' ⟨i0, i1, q6, hv6, h6, hx6⟩ hN'
    unfold B_spec_l01Renamed_6
    refine ⟨fun hlt2 => ?_, fun hge2 => ?_⟩
    · have hlt2 := dec_t hlt2
      intro w7 hd7
      have b67 := hd7.below w6.heap.size
      have q7 := q6.trans (hd7.below w.heap.size)
      have bi := hp.bd i.toNat (by omega)
      have bj := hp.bd j.toNat (by omega)
      have hdi := hp.ne i.toNat j.toNat (by omega) (by omega)
      have hat := hc.e_bd (num i j).toNat
      have hx7 := hx6.keep b67
      have hnn := num_lt bi.1 bi.2 bj.1 bj.2 n1 hdi
      have hed := edges_bd (n := c.n) (by omega) n1
      refine atI (ha.keep q7) i0 (by omega) (atI (ha.keep q7) (by omega) (by omega) (col_all hc hx7 (fldp f2 (c_spec_l01Edge bi.1 (by omega) bj.1 (by omega) ⟨Below.refl _ _, c_spec_l01At hc i0 (by omega) (by omega) (by omega) (by omega) fun w8 q8 => ⟨q8, int_u8 hat.1 hat.2 ?_⟩⟩))))
      have b68 := b67.trans (q8.mono b67.size)
      have q68 := q7.trans (q8.mono q7.size)
      have h8 : BlkC w8 b ⟨c.n, c.k, renE c p (edgesOf j + i).toNat⟩ := below_at b68 h6 (at_lt h6)
      refine put_e h8 (renE_len _ _ _) hnn.1 (by omega) fun w9 m9 s9 h9 => ?_
      rw [wrap_small (by omega) (by omega)]
      have hz := q68.size; have hlb2 := at_lt h8
      refine hN' _ _ ⟨by omega, by omega, q68.trans (m9.below (by omega) (by simp; omega)), (hv6.keep b68).mod m9 hne, ?_, (hx6.keep b68).mod m9 (by simp; omega)⟩ (by omega)
      have := renE_succ c p i0 hlt2 (by omega)
      unfold colAt at this
      rw [this]
      exact h9
    · have hge2 := dec_f hge2
      have : i = j := by omega
      subst this
      intro _
      show N _ (IntKind.i64.wrap (i + 1)) w6
      rw [wrap_small (by omega) (by omega)]
      refine hN _ _ ⟨by omega, by omega, q6, hv6, ?_, hx6⟩ (by omega)
      rw [edgesOf_succ]; exact h6
  · have hge := dec_f hge
    have : j = c.n := by omega
    subst this
    intro _
    have hs5 := q5.size
    exact col_all (renC_ok hc p) (blk_row h5) (c_ret (renC_ok hc p) hv5 hs5 fun w6 q6 => hK w6 (q5.trans q6))

end Go.Proofs.Ytdkodhonaoecnaa
