/- The reading of spec_ColouringOf, and its contract. No condition. -/
import Derived.Test.YtdnofmicjgppnaaTy
import Derived.Test.YtdnofmicjgppnaaS6Of
import Derived.Test.YtdnofmicjgppnaaFspecUl01All
import Derived.Test.YtdnofmicjgppnaaFspecUl01In
namespace Go.Proofs.Ytdnofmicjgppnaa
open Go Go.RowKit Eng Mem
set_option linter.unusedVariables false
set_option maxRecDepth 100000
def B_spec_ColouringOf_5 (colours2 : Value) (x6 : Value) (out8 : Value) (e9 : Int) (N : (Value × Value × Value) → Int → World → Prop) (D0 : (Value × Value × Unit) → World → Prop) (w : World) : Prop :=
  (QAll Try.prog (Builtin.len_ #[22] 3 #[colours2]) (.int .i64) fun (x40_36 : Int) => (((decide (e9 < x40_36)) = true → (QAll Try.prog (Instr.indexAt 22 colours2 (.int .i64 e9)) .any fun (x47_37 : Value) => (QSub Try.prog (Instr.loadAt 2 x47_37) w (.int .i64) fun (x48_38 : Int) => (QAll Try.prog (convert 2 5 (.int .i64 x48_38)) (.int .u8) fun (x49_39 : Int) => (QAll Try.prog (Instr.fieldAt 31 out8 2) .any fun (x50_40 : Value) => (QAll Try.prog (Instr.indexAt 29 x50_40 (.int .i64 e9)) .any fun (x51_41 : Value) => (PrU Try.prog (Instr.storeAt 5 x51_41 (.int .u8 x49_39)) w fun w_42 => N ((colours2 : Value), (x6 : Value), (out8 : Value)) (IntKind.i64.wrap (e9 + (1 : Int))) w_42))))))) ∧ ((decide (e9 < x40_36)) = false → D0 ((x6 : Value), (out8 : Value), ()) w)))

abbrev L_spec_ColouringOf_5_e0 : List Slot := [.junk, .junk, .junk, .junk, .junk, .junk, .k .any, .junk, .k .any, .junk, .junk, .junk, .junk, .junk, .junk, .junk, .junk, .junk, .junk, .junk, .junk, .junk, .junk, .junk, .junk, .junk, .junk, .junk, .junk, .junk, .junk, .junk, .junk, .junk, .junk, .junk, .junk, .junk, .junk, .junk, .junk, .junk, .junk, .junk, .junk, .junk, .junk, .junk, .junk, .junk, .junk, .junk, .junk]

abbrev L_spec_ColouringOf_5_sp : List Slot := [.junk, .junk, .k .any, .junk, .junk, .junk, .k .any, .junk, .k .any, .k (.int .i64), .junk, .junk, .junk, .junk, .junk, .junk, .junk, .junk, .junk, .junk, .junk, .junk, .junk, .junk, .junk, .junk, .junk, .junk, .junk, .junk, .junk, .junk, .junk, .junk, .junk, .junk, .junk, .junk, .junk, .junk, .junk, .junk, .junk, .junk, .junk, .junk, .junk, .junk, .junk, .junk, .junk, .junk, .junk]
abbrev L_spec_ColouringOf_5_ex : List (Nat × List Slot) := [(0, L_spec_ColouringOf_5_e0)]
abbrev L_spec_ColouringOf_5_rt : List Slot := [.junk, .junk, .junk, .junk, .junk, .junk, .junk, .junk, .junk, .junk, .junk, .junk, .junk, .junk, .junk, .junk, .junk, .junk, .junk, .junk, .junk, .junk, .junk, .junk, .junk, .junk, .junk, .junk, .junk, .junk, .junk, .junk, .junk, .junk, .junk, .junk, .junk, .junk, .junk, .junk, .junk, .junk, .junk, .junk, .junk, .junk, .junk, .junk, .junk, .junk, .junk, .junk, .junk]

def L_spec_ColouringOf_5_b (Φ : Post) (u : (Value × Value × Value)) (N : (Value × Value × Value) → Int → World → Prop) (s : Int) (w : World) : Prop :=
  B_spec_ColouringOf_5 u.1 u.2.1 u.2.2 s N (fun v w => ∀ j : Nat → Value, Φ (.exit 0) (mkT j 0 L_spec_ColouringOf_5_e0 v) w) w

theorem L_spec_ColouringOf_5_eq (j : Nat → Value) (u : (Value × Value × Value)) (s : Int) (N : (Value × Value × Value) → Int → World → Prop) (D0 : (Value × Value × Unit) → World → Prop) (R : (Unit) → World → Prop) (w : World) :
    W Try.prog ty (fun _ _ _ _ => False) (loopAt Try.f20 5) (loopPost L_spec_ColouringOf_5_sp [(0, (⟨L_spec_ColouringOf_5_e0, D0⟩ : Door))] ⟨L_spec_ColouringOf_5_rt, R⟩ (fun v w => N ((fun v => (v.1, v.2.1, v.2.2.1)) v) ((fun v => v.2.2.2.1) v) w)) (mkT j 0 L_spec_ColouringOf_5_sp ((fun u s => (u.1, u.2.1, u.2.2, s, ())) u s)) w =
    B_spec_ColouringOf_5 u.1 u.2.1 u.2.2 s N D0 w := by
  kernel_rfl

def O_spec_ColouringOf_1 : Code → Post → List SV → World → Prop :=
  orc 5 (loopAt Try.f20 5) L_spec_ColouringOf_5_sp (fun Φ fr w => LOOP (U := (Value × Value × Value)) (S := Int) ((fun v => (v.1, v.2.1, v.2.2.1)) (extT L_spec_ColouringOf_5_sp fr)) (L_spec_ColouringOf_5_b Φ ((fun v => (v.1, v.2.1, v.2.2.1)) (extT L_spec_ColouringOf_5_sp fr))) ((fun v => v.2.2.2.1) (extT L_spec_ColouringOf_5_sp fr)) w) (fun _ _ _ _ => False)

theorem O_spec_ColouringOf_1_ok : Sound Try.prog O_spec_ColouringOf_1 :=
  orc_ok (sound_none _) fun Φ fr w hs h => loop_ok (ty := ty) follows (sound_none _) L_spec_ColouringOf_5_sp (fun v => (v.1, v.2.1, v.2.2.1)) (fun v => v.2.2.2.1) (fun u s => (u.1, u.2.1, u.2.2, s, ())) (fun _ => rfl) L_spec_ColouringOf_5_ex L_spec_ColouringOf_5_rt (body := L_spec_ColouringOf_5_b Φ) (fun j u s w N hb => by
    have e := L_spec_ColouringOf_5_eq j u s N (doorOf Φ (.exit 0) L_spec_ColouringOf_5_e0).D (doorOf Φ .ret L_spec_ColouringOf_5_rt).D w
    exact Eq.mpr e hb) hs h

def V_spec_ColouringOf (n0 : Int) (k1 : Int) (colours2 : Value) (w : World) (K : (Value × Int) → World → Prop) : Prop :=
  (Pr Try.prog (Instr.alloc 31 true (.tuple #[])) w (.one .any) fun (x6_2 : Value) w_1 => (Fc Try.prog 43 #[(.int .i64 n0), (.int .i64 (1 : Int)), (.int .i64 (17 : Int))] w_1 (.one .bool) fun (x11_4 : Bool) w_3 => (((!x11_4) = true → (Pr Try.prog (Instr.build 31 #[]) w_3 (.one .any) fun (x34_6 : Value) w_5 => (PrU Try.prog (Instr.storeAt 31 x6_2 x34_6) w_5 fun w_7 => (QSub Try.prog (Instr.loadAt 31 x6_2) w_7 .any fun (r_9 : Value) => K ((r_9 : Value), (2 : Int)) w_7)))) ∧ ((!x11_4) = false → (Fc Try.prog 43 #[(.int .i64 k1), (.int .i64 (1 : Int)), (.int .i64 (4 : Int))] w_3 (.one .bool) fun (x15_11 : Bool) w_10 => (((!x15_11) = true → (Pr Try.prog (Instr.build 31 #[]) w_10 (.one .any) fun (x34_13 : Value) w_12 => (PrU Try.prog (Instr.storeAt 31 x6_2 x34_13) w_12 fun w_14 => (QSub Try.prog (Instr.loadAt 31 x6_2) w_14 .any fun (r_16 : Value) => K ((r_16 : Value), (2 : Int)) w_14)))) ∧ ((!x15_11) = false → (QAll Try.prog (Builtin.len_ #[22] 3 #[colours2]) (.int .i64) fun (x20_17 : Int) => ((2 : Int) ≠ 0 ∧ (((x20_17 != (IntKind.i64.wrap (Int.tdiv (IntKind.i64.wrap (n0 * (IntKind.i64.wrap (n0 - (1 : Int))))) (2 : Int)))) = true → (Pr Try.prog (Instr.build 31 #[]) w_10 (.one .any) fun (x34_19 : Value) w_18 => (PrU Try.prog (Instr.storeAt 31 x6_2 x34_19) w_18 fun w_20 => (QSub Try.prog (Instr.loadAt 31 x6_2) w_20 .any fun (r_22 : Value) => K ((r_22 : Value), (2 : Int)) w_20)))) ∧ ((x20_17 != (IntKind.i64.wrap (Int.tdiv (IntKind.i64.wrap (n0 * (IntKind.i64.wrap (n0 - (1 : Int))))) (2 : Int)))) = false → (Fc Try.prog 46 #[colours2, (.int .i64 k1)] w_10 (.one .bool) fun (x31_24 : Bool) w_23 => (((!x31_24) = true → (Pr Try.prog (Instr.build 31 #[]) w_23 (.one .any) fun (x34_26 : Value) w_25 => (PrU Try.prog (Instr.storeAt 31 x6_2 x34_26) w_25 fun w_27 => (QSub Try.prog (Instr.loadAt 31 x6_2) w_27 .any fun (r_29 : Value) => K ((r_29 : Value), (2 : Int)) w_27)))) ∧ ((!x31_24) = false → (Pr Try.prog (Instr.build 31 #[(0, (.int .i64 n0)), (1, (.int .i64 k1))]) w_23 (.one .any) fun (x37_31 : Value) w_30 => (Pr Try.prog (Instr.alloc 31 true (.tuple #[])) w_30 (.one .any) fun (out8_33 : Value) w_32 => (PrU Try.prog (Instr.storeAt 31 out8_33 x37_31) w_32 fun w_34 => (At (loopAt Try.f20 5) (loopAt Try.f20 5) (LOOP (U := (Value × Value × Value)) (S := Int) ((colours2 : Value), (x6_2 : Value), (out8_33 : Value)) (fun N_51 s_52 w_53 => B_spec_ColouringOf_5 (colours2 : Value) (x6_2 : Value) (out8_33 : Value) s_52 N_51 (fun (v_44 : (Value × Value × Unit)) w_45 => ∀ _j_46 : Nat → Value, (QSub Try.prog (Instr.loadAt 31 v_44.2.1) w_45 .any fun (x52_47 : Value) => (PrU Try.prog (Instr.storeAt 31 v_44.1 x52_47) w_45 fun w_48 => (QSub Try.prog (Instr.loadAt 31 v_44.1) w_48 .any fun (r_50 : Value) => K ((r_50 : Value), (0 : Int)) w_48)))) w_53) (0 : Int) w_34)))))))))))))))))))

theorem eq_spec_ColouringOf (n0 : Int) (k1 : Int) (colours2 : Value) (w : World) (K : (Value × Int) → World → Prop) :
    W Try.prog ty O_spec_ColouringOf_1 (bodyOf Try.f20) (fnPost Try.prog Try.f20.results.toList (.two .any (.int .i64)) K) (frame0 [(.int .i64 n0), (.int .i64 k1), colours2] 53) w = V_spec_ColouringOf n0 k1 colours2 w K := by
  kernel_rfl

theorem body_spec_ColouringOf : Try.f20.body = some (bodyOf Try.f20) := by kernel_rfl
theorem name_spec_ColouringOf : (Try.f20.name == "runtime.NumGoroutine") = false := by kernel_rfl

theorem walk_spec_ColouringOf (n0 : Int) (k1 : Int) (colours2 : Value) {w : World} {K : (Value × Int) → World → Prop} (h : V_spec_ColouringOf n0 k1 colours2 w K) : Fc Try.prog 20 #[(.int .i64 n0), (.int .i64 k1), colours2] w (.two .any (.int .i64)) K :=
  fn_ok follows O_spec_ColouringOf_1_ok Try.func20 name_spec_ColouringOf body_spec_ColouringOf Try.ntmps20 [(.int .i64 n0), (.int .i64 k1), colours2] (Eq.mpr (eq_spec_ColouringOf n0 k1 colours2 w K) h)

-- uses S6Of
theorem c_spec_ColouringOf {n k : Int} {a : Value} {l : List Int} {w : World} {K : Value × Int → World → Prop} (_ : I64 n) (_ : I64 k) (ha : ArgI w a l)
    (hK : ∀ w', Below w.heap.size w w' → (colOf n k l).1.Ok → K ((colOf n k l).1.val, (colOf n k l).2) w') : Fc Try.prog F_spec_ColouringOf #[.int .i64 n, .int .i64 k, a] w (.two .any (.int .i64)) K := by
  have no : ¬ (Sizes n k ∧ (l.length : Int) = edgesOf n ∧ AllIn l 0 (k - 1)) → ∀ w', Below w.heap.size w w' → K (col0.val, 2) w' := fun hn w' hb => by
    have := hK w' hb (colOf_ok _ _ _); unfold colOf at this; rwa [if_neg hn] at this
  refine walk_spec_ColouringOf _ _ _ (c_alloc fun p w1 hb1 hv => c_spec_l01In _ _ _ ?_)
  have hs1 := hb1.size
  refine ⟨fun h => c_none hv hs1 fun w' hb' => no (fun hh => notd_t h ⟨hh.1.1, hh.1.2.1⟩) _ (hb1.trans hb'), fun h1 => c_spec_l01In _ _ _ ?_⟩
  have h1 := notd_f h1
  refine ⟨fun h => c_none hv hs1 fun w' hb' => no (fun hh => notd_t h ⟨hh.1.2.2.1, hh.1.2.2.2⟩) _ (hb1.trans hb'), fun h2 => lenI (ha.sl.keep hb1) ⟨by decide, ?_⟩⟩
  have h2 := notd_f h2
  have hS : Sizes n k := ⟨h1.1, h1.2, h2.1, h2.2⟩
  rw [wedges (by omega) h1.2]
  refine ⟨fun h => c_none hv hs1 fun w' hb' => no (fun hh => ne_t h hh.2.1) _ (hb1.trans hb'), fun h3 => c_spec_l01All (ha.sl.keep hb1) (by omega) (by omega) ?_⟩
  have h3 := ne_f h3
  refine ⟨fun h => c_none hv hs1 fun w' hb' => no (fun hh => notd_t h hh.2.2) _ (hb1.trans hb'), fun h4 => ?_⟩
  have h4 := notd_f h4
  have hK' := fun w' hb => hK w' hb (colOf_ok _ _ _)
  have hok := colOf_ok n k l
  unfold colOf at hK' hok
  rw [if_pos ⟨hS, h3, h4⟩] at hK' hok
  refine build2 (allocA yC fun b w2 n2 => ?_)
  have e2 := n2.here; have s2 := n2.size
  have hne := hv.ne (Nat.le_of_eq e2.symm)
  refine stA0 yC n2.at_ (by simp [Col.cells, zC, zA]) (by simp [Col.cells, zC, zA]) (Col.cells_one _) fun w3 m3 s3 h3' => ?_
  have hv3 := (hv.keep n2.below).mod m3 hne
  have hb3 : Below w.heap.size w w3 := (hb1.trans (n2.below.mono hs1)).trans (m3.below (by omega) (by simp; omega))
  have hed := edges_bd (n := n) (by omega) h1.2
  refine lp (fun e w' => 0 ≤ e ∧ e ≤ l.length ∧ Below w.heap.size w w' ∧ CVar w.heap.size w' p ∧ BlkC w' b ⟨n, k, esF (fun e => l.getD e 0) e.toNat⟩) (fun e _ => (l.length - e).toNat)
    ⟨by omega, by omega, hb3, hv3, by rw [show (0 : Int).toNat = 0 from rfl, esF_0]; exact h3'⟩ ?_
  rintro e w4 N ⟨e0, e1, hb4, hv4, h4'⟩ hN
  unfold B_spec_ColouringOf_5
  have hs4 := hb4.size
  refine lenI (ha.sl.keep hb4) ⟨fun hlt => ?_, fun hge => ?_⟩
  · have hlt := dec_t hlt
    have hx := h4.get (i := e.toNat) (by omega)
    refine atI (ha.sl.keep hb4) e0 hlt (int_u8 hx.1 (by omega) (fldp f2 (put_e h4' (esF_len _ _) e0 (by omega) fun w5 m5 s5 h5 => ?_)))
    rw [wrap_small (by omega) (by omega)]
    have hlb := at_lt h4'
    refine hN _ _ ⟨by omega, by omega, hb4.trans (m5.below hs4 (by simp; omega)), hv4.mod m5 hne, ?_⟩ (by omega)
    rw [esF_set (fun e => l.getD e 0) (by omega)] at h5
    rwa [show (e + 1).toNat = e.toNat + 1 from by omega]
  · have hge := dec_f hge
    have : e = l.length := by omega
    subst this
    intro _
    refine col_all (c := colF n k fun e => l.getD e 0) hok (by have := blk_row h4'; unfold colF; rwa [← h3]) (c_ret hok hv4 hs4 fun w5 hb5 => hK' w5 (hb4.trans hb5))

end Go.Proofs.Ytdnofmicjgppnaa
