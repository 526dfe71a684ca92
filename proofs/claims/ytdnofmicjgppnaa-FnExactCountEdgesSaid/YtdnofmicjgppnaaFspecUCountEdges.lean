/- The reading of spec_CountEdges, and its contract. No condition. -/
import Derived.Test.YtdnofmicjgppnaaTy
import Derived.Test.YtdnofmicjgppnaaS7Refl
import Derived.Test.YtdnofmicjgppnaaFspecUl01Is
namespace Go.Proofs.Ytdnofmicjgppnaa
open Go Go.RowKit Eng Mem
set_option linter.unusedVariables false
set_option maxRecDepth 100000
def B_spec_CountEdges_5 (x1 : Value) (out4 : Value) (e5 : Int) (N : (Value × Value) → Int → World → Prop) (D0 : (Value × Unit) → World → Prop) (w : World) : Prop :=
  (QAll Try.prog (Instr.fieldAt 31 x1 0) .any fun (x13_10 : Value) => (QSub Try.prog (Instr.loadAt 2 x13_10) w (.int .i64) fun (x14_11 : Int) => (QAll Try.prog (Instr.fieldAt 31 x1 0) .any fun (x15_12 : Value) => (QSub Try.prog (Instr.loadAt 2 x15_12) w (.int .i64) fun (x16_13 : Int) => ((2 : Int) ≠ 0 ∧ (((decide (e5 < (IntKind.i64.wrap (Int.tdiv (IntKind.i64.wrap (x14_11 * (IntKind.i64.wrap (x16_13 - (1 : Int))))) (2 : Int))))) = true → (QAll Try.prog (Instr.fieldAt 31 x1 2) .any fun (x25_14 : Value) => (QAll Try.prog (Instr.indexAt 29 x25_14 (.int .i64 e5)) .any fun (x26_15 : Value) => (QSub Try.prog (Instr.loadAt 5 x26_15) w (.int .u8) fun (x27_16 : Int) => (QAll Try.prog (Instr.indexAt 22 out4 (.int .u8 x27_16)) .any fun (x28_17 : Value) => (QSub Try.prog (Instr.loadAt 2 x28_17) w (.int .i64) fun (x29_18 : Int) => (QAll Try.prog (Instr.indexAt 22 out4 (.int .u8 x27_16)) .any fun (x31_19 : Value) => (PrU Try.prog (Instr.storeAt 2 x31_19 (.int .i64 (IntKind.i64.wrap (x29_18 + (1 : Int))))) w fun w_20 => N ((x1 : Value), (out4 : Value)) (IntKind.i64.wrap (e5 + (1 : Int))) w_20)))))))) ∧ ((decide (e5 < (IntKind.i64.wrap (Int.tdiv (IntKind.i64.wrap (x14_11 * (IntKind.i64.wrap (x16_13 - (1 : Int))))) (2 : Int))))) = false → D0 ((out4 : Value), ()) w)))))))

abbrev L_spec_CountEdges_5_e0 : List Slot := [.junk, .junk, .junk, .junk, .k .any, .junk, .junk, .junk, .junk, .junk, .junk, .junk, .junk, .junk, .junk, .junk, .junk, .junk, .junk, .junk, .junk, .junk, .junk, .junk, .junk, .junk, .junk, .junk, .junk, .junk, .junk, .junk, .junk]

abbrev L_spec_CountEdges_5_sp : List Slot := [.junk, .k .any, .junk, .junk, .k .any, .k (.int .i64), .junk, .junk, .junk, .junk, .junk, .junk, .junk, .junk, .junk, .junk, .junk, .junk, .junk, .junk, .junk, .junk, .junk, .junk, .junk, .junk, .junk, .junk, .junk, .junk, .junk, .junk, .junk]
abbrev L_spec_CountEdges_5_ex : List (Nat × List Slot) := [(0, L_spec_CountEdges_5_e0)]
abbrev L_spec_CountEdges_5_rt : List Slot := [.junk, .junk, .junk, .junk, .junk, .junk, .junk, .junk, .junk, .junk, .junk, .junk, .junk, .junk, .junk, .junk, .junk, .junk, .junk, .junk, .junk, .junk, .junk, .junk, .junk, .junk, .junk, .junk, .junk, .junk, .junk, .junk, .junk]

def L_spec_CountEdges_5_b (Φ : Post) (u : (Value × Value)) (N : (Value × Value) → Int → World → Prop) (s : Int) (w : World) : Prop :=
  B_spec_CountEdges_5 u.1 u.2 s N (fun v w => ∀ j : Nat → Value, Φ (.exit 0) (mkT j 0 L_spec_CountEdges_5_e0 v) w) w

theorem L_spec_CountEdges_5_eq (j : Nat → Value) (u : (Value × Value)) (s : Int) (N : (Value × Value) → Int → World → Prop) (D0 : (Value × Unit) → World → Prop) (R : (Unit) → World → Prop) (w : World) :
    W Try.prog ty (fun _ _ _ _ => False) (loopAt Try.f27 5) (loopPost L_spec_CountEdges_5_sp [(0, (⟨L_spec_CountEdges_5_e0, D0⟩ : Door))] ⟨L_spec_CountEdges_5_rt, R⟩ (fun v w => N ((fun v => (v.1, v.2.1)) v) ((fun v => v.2.2.1) v) w)) (mkT j 0 L_spec_CountEdges_5_sp ((fun u s => (u.1, u.2, s, ())) u s)) w =
    B_spec_CountEdges_5 u.1 u.2 s N D0 w := by
  kernel_rfl

def O_spec_CountEdges_1 : Code → Post → List SV → World → Prop :=
  orc 5 (loopAt Try.f27 5) L_spec_CountEdges_5_sp (fun Φ fr w => LOOP (U := (Value × Value)) (S := Int) ((fun v => (v.1, v.2.1)) (extT L_spec_CountEdges_5_sp fr)) (L_spec_CountEdges_5_b Φ ((fun v => (v.1, v.2.1)) (extT L_spec_CountEdges_5_sp fr))) ((fun v => v.2.2.1) (extT L_spec_CountEdges_5_sp fr)) w) (fun _ _ _ _ => False)

theorem O_spec_CountEdges_1_ok : Sound Try.prog O_spec_CountEdges_1 :=
  orc_ok (sound_none _) fun Φ fr w hs h => loop_ok (ty := ty) follows (sound_none _) L_spec_CountEdges_5_sp (fun v => (v.1, v.2.1)) (fun v => v.2.2.1) (fun u s => (u.1, u.2, s, ())) (fun _ => rfl) L_spec_CountEdges_5_ex L_spec_CountEdges_5_rt (body := L_spec_CountEdges_5_b Φ) (fun j u s w N hb => by
    have e := L_spec_CountEdges_5_eq j u s N (doorOf Φ (.exit 0) L_spec_CountEdges_5_e0).D (doorOf Φ .ret L_spec_CountEdges_5_rt).D w
    exact Eq.mpr e hb) hs h

def V_spec_CountEdges (x0 : Value) (w : World) (K : (Value × Int) → World → Prop) : Prop :=
  (Pr Try.prog (Instr.box 31 x0) w (.one .any) fun (x1_2 : Value) w_1 => (QSub Try.prog (Instr.loadAt 31 x1_2) w_1 .any fun (x6_3 : Value) => (Fc Try.prog 57 #[x6_3] w_1 (.one .bool) fun (x7_5 : Bool) w_4 => (((!x7_5) = true → K (((.slice none 0 0) : Value), (1 : Int)) w_4) ∧ ((!x7_5) = false → (QAll Try.prog (Instr.fieldAt 31 x1_2 1) .any fun (x9_6 : Value) => (QSub Try.prog (Instr.loadAt 2 x9_6) w_4 (.int .i64) fun (x10_7 : Int) => (Pr Try.prog (Instr.makeSlice 22 (.int .i64 x10_7) (.int .i64 x10_7)) w_4 (.one .any) fun (x11_9 : Value) w_8 => (At (loopAt Try.f27 5) (loopAt Try.f27 5) (LOOP (U := (Value × Value)) (S := Int) ((x1_2 : Value), (x11_9 : Value)) (fun N_25 s_26 w_27 => B_spec_CountEdges_5 (x1_2 : Value) (x11_9 : Value) s_26 N_25 (fun (v_22 : (Value × Unit)) w_23 => ∀ _j_24 : Nat → Value, K ((v_22.1 : Value), (0 : Int)) w_23) w_27) (0 : Int) w_8))))))))))

theorem eq_spec_CountEdges (x0 : Value) (w : World) (K : (Value × Int) → World → Prop) :
    W Try.prog ty O_spec_CountEdges_1 (bodyOf Try.f27) (fnPost Try.prog Try.f27.results.toList (.two .any (.int .i64)) K) (frame0 [x0] 33) w = V_spec_CountEdges x0 w K := by
  kernel_rfl

theorem body_spec_CountEdges : Try.f27.body = some (bodyOf Try.f27) := by kernel_rfl
theorem name_spec_CountEdges : (Try.f27.name == "runtime.NumGoroutine") = false := by kernel_rfl

theorem walk_spec_CountEdges (x0 : Value) {w : World} {K : (Value × Int) → World → Prop} (h : V_spec_CountEdges x0 w K) : Fc Try.prog 27 #[x0] w (.two .any (.int .i64)) K :=
  fn_ok follows O_spec_CountEdges_1_ok Try.func27 name_spec_CountEdges body_spec_CountEdges Try.ntmps27 [x0] (Eq.mpr (eq_spec_CountEdges x0 w K) h)

-- uses S7Refl
theorem c_spec_CountEdges {c : Col} {w : World} {K : Value × Int → World → Prop} (hc : c.Ok)
    (hK : ∀ w' v, Below w.heap.size w w' → MyI w.heap.size w'.heap.size w' v (countE c).1 → K (v, (countE c).2) w') : Fc Try.prog F_spec_CountEdges #[c.val] w (.two .any (.int .i64)) K := by
  unfold countE at hK
  refine walk_spec_CountEdges _ (col_box fun b w1 n1 hx => col_all hc hx (c_spec_l01Is hc fun w2 hb2 => ⟨fun h => ?_, fun h => ?_⟩))
  · have hb := n1.below.trans (hb2.mono n1.below.size)
    rw [if_neg (notd_t h)] at hK
    exact hK w2 _ hb (myI_nil _ _ _)
  · have h := notd_f h
    rw [if_pos h] at hK
    have hk0 := h.2.2.1; have hk1 := h.2.2.2.1; have hn0 := h.1; have hn1 := h.2.1
    have he := edges_bd (n := c.n) (by omega) hn1
    have hx2 := hx.keep hb2
    refine col_k hx2 (mkI (by omega) (by omega) fun b2 v w3 n3 ho => ?_)
    have hb13 : Below w1.heap.size w1 w3 := hb2.trans (n3.below.mono hb2.size)
    have hs1 := n1.below.size; have hs2 := hb2.size; have e3 := n3.here
    refine lp (fun e w' => 0 ≤ e ∧ e ≤ edgesOf c.n ∧ Below w1.heap.size w1 w' ∧ OwnI w' b2 v (cntE c e.toNat)) (fun e _ => (edgesOf c.n - e).toNat)
      ⟨by omega, by omega, hb13, by rw [show (0 : Int).toNat = 0 from rfl, cntE_0]; exact ho⟩ ?_
    rintro e w' N ⟨e0, e1, hb, hO⟩ hN
    have hx' := hx.keep hb
    unfold B_spec_CountEdges_5
    refine col_n hx' (col_n hx' ⟨by decide, ?_⟩)
    rw [wedges (by omega) hn1]
    refine ⟨fun hlt => ?_, fun hge => ?_⟩
    · have hlt := dec_t hlt
      have hbd := hc.e_bd e.toNat
      have hck := h.lt (i := e.toNat) (by omega)
      have hq : c.e e.toNat = ((c.e e.toNat).toNat : Int) := by omega
      have hbd2 := cntE_bd c e.toNat (c.e e.toNat).toNat (by omega)
      have hlen := cntE_len c e.toNat
      refine col_e hc hx' e0 (by omega) (atI (own_slI hO (by omega)) hbd.1 (by omega) (putI hO hbd.1 (by omega) fun w4 m4 s4 h4 => ?_))
      rw [wrap_small (by omega) (by omega)]
      have hs := hb.size
      refine hN _ _ ⟨by omega, by omega, hb.trans (m4.below (by omega) (by simp; omega)), ?_⟩ (by omega)
      rw [wrap_small (by omega) (by omega), cntE_set c e.toNat _ hq (by omega)] at h4
      rwa [show (e + 1).toNat = e.toNat + 1 from by omega]
    · have hge := dec_f hge
      have : e = edgesOf c.n := by omega
      subst this
      intro _
      exact hK w' v (n1.below.trans (hb.mono hs1)) (own_my hO (by rw [cntE_len]; omega) (by omega) hO.lt)

end Go.Proofs.Ytdnofmicjgppnaa
