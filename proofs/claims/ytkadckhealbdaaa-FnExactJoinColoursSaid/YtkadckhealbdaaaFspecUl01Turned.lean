/- The reading of spec_l01Turned, and its contract. No condition. -/
import Derived.Test.YtkadckhealbdaaaTy
import Derived.Test.YtkadckhealbdaaaS8Rec
namespace Go.Proofs.Ytkadckhealbdaaa
open Go Go.RowKit Eng Mem
set_option linter.unusedVariables false
set_option maxRecDepth 100000
def B_spec_l01Turned_2 (q1 : Value) (x2 : Value) (x4 : Value) (e5 : Int) (N : (Value × Value × Value) → Int → World → Prop) (D0 : (Value × Value × Unit) → World → Prop) (w : World) : Prop :=
  (QAll Try.prog (Instr.fieldAt 25 x2 0) .any fun (x7_5 : Value) => (QSub Try.prog (Instr.loadAt 2 x7_5) w (.int .i64) fun (x8_6 : Int) => (QAll Try.prog (Instr.fieldAt 25 x2 0) .any fun (x9_7 : Value) => (QSub Try.prog (Instr.loadAt 2 x9_7) w (.int .i64) fun (x10_8 : Int) => ((2 : Int) ≠ 0 ∧ (((decide (e5 < (IntKind.i64.wrap (Int.tdiv (IntKind.i64.wrap (x8_6 * (IntKind.i64.wrap (x10_8 - (1 : Int))))) (2 : Int))))) = true → (QAll Try.prog (Instr.fieldAt 25 x2 2) .any fun (x20_9 : Value) => (QAll Try.prog (Instr.indexAt 22 x20_9 (.int .i64 e5)) .any fun (x21_10 : Value) => (QSub Try.prog (Instr.loadAt 5 x21_10) w (.int .u8) fun (x22_11 : Int) => (QAll Try.prog (Instr.indexAt 31 q1 (.int .u8 x22_11)) .any fun (x23_12 : Value) => (QSub Try.prog (Instr.loadAt 2 x23_12) w (.int .i64) fun (x24_13 : Int) => (QAll Try.prog (convert 2 5 (.int .i64 x24_13)) (.int .u8) fun (x25_14 : Int) => (QAll Try.prog (Instr.fieldAt 25 x2 2) .any fun (x26_15 : Value) => (QAll Try.prog (Instr.indexAt 22 x26_15 (.int .i64 e5)) .any fun (x27_16 : Value) => (PrU Try.prog (Instr.storeAt 5 x27_16 (.int .u8 x25_14)) w fun w_17 => N ((q1 : Value), (x2 : Value), (x4 : Value)) (IntKind.i64.wrap (e5 + (1 : Int))) w_17)))))))))) ∧ ((decide (e5 < (IntKind.i64.wrap (Int.tdiv (IntKind.i64.wrap (x8_6 * (IntKind.i64.wrap (x10_8 - (1 : Int))))) (2 : Int))))) = false → D0 ((x2 : Value), (x4 : Value), ()) w)))))))

abbrev L_spec_l01Turned_2_e0 : List Slot := [.junk, .junk, .k .any, .junk, .k .any, .junk, .junk, .junk, .junk, .junk, .junk, .junk, .junk, .junk, .junk, .junk, .junk, .junk, .junk, .junk, .junk, .junk, .junk, .junk, .junk, .junk, .junk, .junk, .junk]

abbrev L_spec_l01Turned_2_sp : List Slot := [.junk, .k .any, .k .any, .junk, .k .any, .k (.int .i64), .junk, .junk, .junk, .junk, .junk, .junk, .junk, .junk, .junk, .junk, .junk, .junk, .junk, .junk, .junk, .junk, .junk, .junk, .junk, .junk, .junk, .junk, .junk]
abbrev L_spec_l01Turned_2_ex : List (Nat × List Slot) := [(0, L_spec_l01Turned_2_e0)]
abbrev L_spec_l01Turned_2_rt : List Slot := [.junk, .junk, .junk, .junk, .junk, .junk, .junk, .junk, .junk, .junk, .junk, .junk, .junk, .junk, .junk, .junk, .junk, .junk, .junk, .junk, .junk, .junk, .junk, .junk, .junk, .junk, .junk, .junk, .junk]

def L_spec_l01Turned_2_b (Φ : Post) (u : (Value × Value × Value)) (N : (Value × Value × Value) → Int → World → Prop) (s : Int) (w : World) : Prop :=
  B_spec_l01Turned_2 u.1 u.2.1 u.2.2 s N (fun v w => ∀ j : Nat → Value, Φ (.exit 0) (mkT j 0 L_spec_l01Turned_2_e0 v) w) w

theorem L_spec_l01Turned_2_eq (j : Nat → Value) (u : (Value × Value × Value)) (s : Int) (N : (Value × Value × Value) → Int → World → Prop) (D0 : (Value × Value × Unit) → World → Prop) (R : (Unit) → World → Prop) (w : World) :
    W Try.prog ty (fun _ _ _ _ => False) (loopAt Try.f44 2) (loopPost L_spec_l01Turned_2_sp [(0, (⟨L_spec_l01Turned_2_e0, D0⟩ : Door))] ⟨L_spec_l01Turned_2_rt, R⟩ (fun v w => N ((fun v => (v.1, v.2.1, v.2.2.1)) v) ((fun v => v.2.2.2.1) v) w)) (mkT j 0 L_spec_l01Turned_2_sp ((fun u s => (u.1, u.2.1, u.2.2, s, ())) u s)) w =
    B_spec_l01Turned_2 u.1 u.2.1 u.2.2 s N D0 w := by
  kernel_rfl

def O_spec_l01Turned_1 : Code → Post → List SV → World → Prop :=
  orc 2 (loopAt Try.f44 2) L_spec_l01Turned_2_sp (fun Φ fr w => LOOP (U := (Value × Value × Value)) (S := Int) ((fun v => (v.1, v.2.1, v.2.2.1)) (extT L_spec_l01Turned_2_sp fr)) (L_spec_l01Turned_2_b Φ ((fun v => (v.1, v.2.1, v.2.2.1)) (extT L_spec_l01Turned_2_sp fr))) ((fun v => v.2.2.2.1) (extT L_spec_l01Turned_2_sp fr)) w) (fun _ _ _ _ => False)

theorem O_spec_l01Turned_1_ok : Sound Try.prog O_spec_l01Turned_1 :=
  orc_ok (sound_none _) fun Φ fr w hs h => loop_ok (ty := ty) follows (sound_none _) L_spec_l01Turned_2_sp (fun v => (v.1, v.2.1, v.2.2.1)) (fun v => v.2.2.2.1) (fun u s => (u.1, u.2.1, u.2.2, s, ())) (fun _ => rfl) L_spec_l01Turned_2_ex L_spec_l01Turned_2_rt (body := L_spec_l01Turned_2_b Φ) (fun j u s w N hb => by
    have e := L_spec_l01Turned_2_eq j u s N (doorOf Φ (.exit 0) L_spec_l01Turned_2_e0).D (doorOf Φ .ret L_spec_l01Turned_2_rt).D w
    exact Eq.mpr e hb) hs h

def V_spec_l01Turned (x0 : Value) (q1 : Value) (w : World) (K : Value → World → Prop) : Prop :=
  (Pr Try.prog (Instr.box 25 x0) w (.one .any) fun (x2_2 : Value) w_1 => (Pr Try.prog (Instr.alloc 25 true (.tuple #[])) w_1 (.one .any) fun (x4_4 : Value) w_3 => (At (loopAt Try.f44 2) (loopAt Try.f44 2) (LOOP (U := (Value × Value × Value)) (S := Int) ((q1 : Value), (x2_2 : Value), (x4_4 : Value)) (fun N_26 s_27 w_28 => B_spec_l01Turned_2 (q1 : Value) (x2_2 : Value) (x4_4 : Value) s_27 N_26 (fun (v_19 : (Value × Value × Unit)) w_20 => ∀ _j_21 : Nat → Value, (QSub Try.prog (Instr.loadAt 25 v_19.1) w_20 .any fun (x28_22 : Value) => (PrU Try.prog (Instr.storeAt 25 v_19.2.1 x28_22) w_20 fun w_23 => (QSub Try.prog (Instr.loadAt 25 v_19.2.1) w_23 .any fun (r_25 : Value) => K (r_25 : Value) w_23)))) w_28) (0 : Int) w_3))))

theorem eq_spec_l01Turned (x0 : Value) (q1 : Value) (w : World) (K : Value → World → Prop) :
    W Try.prog ty O_spec_l01Turned_1 (bodyOf Try.f44) (fnPost Try.prog Try.f44.results.toList (.one .any) K) (frame0 [x0, q1] 29) w = V_spec_l01Turned x0 q1 w K := by
  kernel_rfl

theorem body_spec_l01Turned : Try.f44.body = some (bodyOf Try.f44) := by kernel_rfl
theorem name_spec_l01Turned : (Try.f44.name == "runtime.NumGoroutine") = false := by kernel_rfl

theorem walk_spec_l01Turned (x0 : Value) (q1 : Value) {w : World} {K : Value → World → Prop} (h : V_spec_l01Turned x0 q1 w K) : Fc Try.prog 44 #[x0, q1] w (.one .any) K :=
  fn_ok follows O_spec_l01Turned_1_ok Try.func44 name_spec_l01Turned body_spec_l01Turned Try.ntmps44 [x0, q1] (Eq.mpr (eq_spec_l01Turned x0 q1 w K) h)

-- uses S8Rec
theorem c_spec_l01Turned {a : Value} {c : Col} {l : List Int} {w : World} {K : Value → World → Prop} (hc : c.Ok) (hI : c.Is) (ha : SlI w a l) (hl : c.k ≤ l.length) (hf : ∀ e, 0 ≤ e → e < c.k → 0 ≤ l.getD e.toNat 0 ∧ l.getD e.toNat 0 < 256)
    (hK : ∀ w', Below w.heap.size w w' → K (recF c c.k fun e => l.getD e.toNat 0).val w') : Fc Try.prog F_spec_l01Turned #[c.val, a] w (.one .any) K := by
  have n0 := hI.1; have n1 := hI.2.1
  have hed := edges_bd (n := c.n) (by omega) n1
  refine walk_spec_l01Turned _ _ (box c.cells rfl fun b w1 m1 => c_alloc fun p w2 q2 hv => ?_)
  have q1 := m1.below
  have e1 := m1.here; have s1 := m1.size; have hs2 := q2.size
  have q12 := q1.trans (q2.mono q1.size)
  have h1 : BlkC w1 b c := m1.at_
  have h2 : BlkC w2 b c := below_at q2 h1 (at_lt h1)
  have hpne : p ≠ ptr b 0 := hv.ne' h1
  refine lp (fun e w' => 0 ≤ e ∧ e ≤ edgesOf c.n ∧ Below w.heap.size w w' ∧ CVar w.heap.size w' p ∧ BlkC w' b ⟨c.n, c.k, esT c (fun e => l.getD e.toNat 0) e.toNat⟩) (fun e _ => (edgesOf c.n - e).toNat)
    ⟨by omega, by omega, q12, hv.mono (by omega), by rw [show (0 : Int).toNat = 0 from rfl, esT_0 hc]; exact h2⟩ ?_
  rintro e w3 N ⟨e0, e1', q3, hv3, h3⟩ hN
  unfold B_spec_l01Turned_2
  have hlen := esT_len c (fun e => l.getD e.toNat 0) e.toNat
  have hrow : ColAt w3 (ptr b 0) ⟨c.n, c.k, esT c (fun e => l.getD e.toNat 0) e.toNat⟩ := blk_row h3
  have hbyte : ∀ m : Nat, m ≤ (edgesOf c.n).toNat → (⟨c.n, c.k, esT c (fun e => l.getD e.toNat 0) m⟩ : Col).Ok := fun m hm => ⟨esT_len c (fun e => l.getD e.toNat 0) m, esT_byte hc (f := fun e => l.getD e.toNat 0) (m := m) fun i hi => by
    have := is_e hI hc (e := i) (by omega)
    exact hf _ this.1 this.2, hc.n0, hc.n1, hc.k0, hc.k1⟩
  refine col_n (c := ⟨c.n, c.k, _⟩) hrow (col_n (c := ⟨c.n, c.k, _⟩) hrow ⟨by decide, ?_⟩)
  dsimp only
  rw [wedges (by omega) n1]
  refine ⟨fun hlt => ?_, fun hge => ?_⟩
  · have hlt := dec_t hlt
    have he := is_e hI hc (e := e.toNat) (by omega)
    have hfe := hf _ he.1 he.2
    refine col_e (c := ⟨c.n, c.k, _⟩) (hbyte e.toNat (by omega)) hrow e0 (by omega) ?_
    rw [esT_e c _ (by omega), if_neg (by omega)]
    refine atI (ha.keep q3) he.1 (by omega) (int_u8 hfe.1 hfe.2 (fldp f2 (put_e h3 hlen e0 (by omega) fun w4 m4 s4 h4 => ?_)))
    rw [wrap_small (by omega) (by omega)]
    have := esT_set c (fun e => l.getD e.toNat 0) (m := e.toNat) (by omega)
    rw [this] at h4
    refine hN _ _ ⟨by omega, by omega, q3.trans (m4.below q3.size (by simp; omega)), hv3.mod m4 hpne, by rw [show (e + 1).toNat = e.toNat + 1 from by omega]; exact h4⟩ (by omega)
  · have hge := dec_f hge
    have : e = edgesOf c.n := by omega
    subst this
    intro _
    have hend := esT_end hI (fun e => l.getD e.toNat 0) c.k
    rw [hend] at h3
    have hok := hbyte (edgesOf c.n).toNat (by omega)
    rw [hend] at hok
    exact col_all hok (blk_row h3) (c_ret hok hv3 q3.size fun w4 q4 => hK w4 (q3.trans q4))

end Go.Proofs.Ytkadckhealbdaaa
