/- The reading of impl_Colouring_counts, and its contract. No condition. -/
import Derived.Test.YtdnofmicjgppnaaTy
import Derived.Test.YtdnofmicjgppnaaS7Refl
import Derived.Test.YtdnofmicjgppnaaFimplUColouringUedges
namespace Go.Proofs.Ytdnofmicjgppnaa
open Go Go.RowKit Eng Mem
set_option linter.unusedVariables false
set_option maxRecDepth 100000
def B_impl_Colouring_counts_3 (out3 : Value) (x16 : Value) (x17 : Int) (x18 : Int) (N : (Value × Value × Int) → Int → World → Prop) (D0 : (Value × Unit) → World → Prop) (w : World) : Prop :=
  (((decide (x18 < x17)) = true → (QAll Try.prog (Instr.indexAt 85 x16 (.int .i64 x18)) .any fun (x20_11 : Value) => (QSub Try.prog (Instr.loadAt 5 x20_11) w (.int .u8) fun (x21_12 : Int) => (QAll Try.prog (Instr.indexAt 22 out3 (.int .u8 x21_12)) .any fun (x24_13 : Value) => (QSub Try.prog (Instr.loadAt 2 x24_13) w (.int .i64) fun (x25_14 : Int) => (QAll Try.prog (Instr.indexAt 22 out3 (.int .u8 x21_12)) .any fun (x27_15 : Value) => (PrU Try.prog (Instr.storeAt 2 x27_15 (.int .i64 (IntKind.i64.wrap (x25_14 + (1 : Int))))) w fun w_16 => N ((out3 : Value), (x16 : Value), x17) (IntKind.i64.wrap (x18 + (1 : Int))) w_16))))))) ∧ ((decide (x18 < x17)) = false → D0 ((out3 : Value), ()) w))

abbrev L_impl_Colouring_counts_3_e0 : List Slot := [.junk, .junk, .junk, .k .any, .junk, .junk, .junk, .junk, .junk, .junk, .junk, .junk, .junk, .junk, .junk, .junk, .junk, .junk, .junk, .junk, .junk, .junk, .junk, .junk, .junk, .junk, .junk, .junk, .junk, .junk]

abbrev L_impl_Colouring_counts_3_sp : List Slot := [.junk, .junk, .junk, .k .any, .junk, .junk, .junk, .junk, .junk, .junk, .junk, .junk, .junk, .junk, .junk, .junk, .k .any, .k (.int .i64), .k (.int .i64), .junk, .junk, .junk, .junk, .junk, .junk, .junk, .junk, .junk, .junk, .junk]
abbrev L_impl_Colouring_counts_3_ex : List (Nat × List Slot) := [(0, L_impl_Colouring_counts_3_e0)]
abbrev L_impl_Colouring_counts_3_rt : List Slot := [.junk, .junk, .junk, .junk, .junk, .junk, .junk, .junk, .junk, .junk, .junk, .junk, .junk, .junk, .junk, .junk, .junk, .junk, .junk, .junk, .junk, .junk, .junk, .junk, .junk, .junk, .junk, .junk, .junk, .junk]

def L_impl_Colouring_counts_3_b (Φ : Post) (u : (Value × Value × Int)) (N : (Value × Value × Int) → Int → World → Prop) (s : Int) (w : World) : Prop :=
  B_impl_Colouring_counts_3 u.1 u.2.1 u.2.2 s N (fun v w => ∀ j : Nat → Value, Φ (.exit 0) (mkT j 0 L_impl_Colouring_counts_3_e0 v) w) w

theorem L_impl_Colouring_counts_3_eq (j : Nat → Value) (u : (Value × Value × Int)) (s : Int) (N : (Value × Value × Int) → Int → World → Prop) (D0 : (Value × Unit) → World → Prop) (R : (Unit) → World → Prop) (w : World) :
    W Try.prog ty (fun _ _ _ _ => False) (loopAt Try.f61 3) (loopPost L_impl_Colouring_counts_3_sp [(0, (⟨L_impl_Colouring_counts_3_e0, D0⟩ : Door))] ⟨L_impl_Colouring_counts_3_rt, R⟩ (fun v w => N ((fun v => (v.1, v.2.1, v.2.2.1)) v) ((fun v => v.2.2.2.1) v) w)) (mkT j 0 L_impl_Colouring_counts_3_sp ((fun u s => (u.1, u.2.1, u.2.2, s, ())) u s)) w =
    B_impl_Colouring_counts_3 u.1 u.2.1 u.2.2 s N D0 w := by
  kernel_rfl

def O_impl_Colouring_counts_1 : Code → Post → List SV → World → Prop :=
  orc 3 (loopAt Try.f61 3) L_impl_Colouring_counts_3_sp (fun Φ fr w => LOOP (U := (Value × Value × Int)) (S := Int) ((fun v => (v.1, v.2.1, v.2.2.1)) (extT L_impl_Colouring_counts_3_sp fr)) (L_impl_Colouring_counts_3_b Φ ((fun v => (v.1, v.2.1, v.2.2.1)) (extT L_impl_Colouring_counts_3_sp fr))) ((fun v => v.2.2.2.1) (extT L_impl_Colouring_counts_3_sp fr)) w) (fun _ _ _ _ => False)

theorem O_impl_Colouring_counts_1_ok : Sound Try.prog O_impl_Colouring_counts_1 :=
  orc_ok (sound_none _) fun Φ fr w hs h => loop_ok (ty := ty) follows (sound_none _) L_impl_Colouring_counts_3_sp (fun v => (v.1, v.2.1, v.2.2.1)) (fun v => v.2.2.2.1) (fun u s => (u.1, u.2.1, u.2.2, s, ())) (fun _ => rfl) L_impl_Colouring_counts_3_ex L_impl_Colouring_counts_3_rt (body := L_impl_Colouring_counts_3_b Φ) (fun j u s w N hb => by
    have e := L_impl_Colouring_counts_3_eq j u s N (doorOf Φ (.exit 0) L_impl_Colouring_counts_3_e0).D (doorOf Φ .ret L_impl_Colouring_counts_3_rt).D w
    exact Eq.mpr e hb) hs h

def V_impl_Colouring_counts (x0 : Value) (w : World) (K : Value → World → Prop) : Prop :=
  (NilOk x0 ∧ (QAll Try.prog (Instr.fieldAt 31 x0 1) .any fun (x8_1 : Value) => (QSub Try.prog (Instr.loadAt 2 x8_1) w (.int .i64) fun (x9_2 : Int) => (Pr Try.prog (Instr.makeSlice 22 (.int .i64 x9_2) (.int .i64 x9_2)) w (.one .any) fun (x10_4 : Value) w_3 => (∀ w_5, Drew w_3 w_5 → (NilOk x0 ∧ (QAll Try.prog (Instr.fieldAt 31 x0 2) .any fun (x13_6 : Value) => (Fc Try.prog 88 #[x0] w_5 (.one (.int .i64)) fun (x15_8 : Int) w_7 => (QAll Try.prog (Instr.sliceAt 29 x13_6 none (some (.int .i64 x15_8)) none) .any fun (x16_9 : Value) => (QAll Try.prog (Builtin.len_ #[85] 3 #[x16_9]) (.int .i64) fun (x17_10 : Int) => (At (loopAt Try.f61 3) (loopAt Try.f61 3) (LOOP (U := (Value × Value × Int)) (S := Int) ((x10_4 : Value), (x16_9 : Value), x17_10) (fun N_21 s_22 w_23 => B_impl_Colouring_counts_3 (x10_4 : Value) (x16_9 : Value) x17_10 s_22 N_21 (fun (v_18 : (Value × Unit)) w_19 => ∀ _j_20 : Nat → Value, K (v_18.1 : Value) w_19) w_23) (0 : Int) w_7))))))))))))

theorem eq_impl_Colouring_counts (x0 : Value) (w : World) (K : Value → World → Prop) :
    W Try.prog ty O_impl_Colouring_counts_1 (bodyOf Try.f61) (fnPost Try.prog Try.f61.results.toList (.one .any) K) (frame0 [x0] 30) w = V_impl_Colouring_counts x0 w K := by
  kernel_rfl

theorem body_impl_Colouring_counts : Try.f61.body = some (bodyOf Try.f61) := by kernel_rfl
theorem name_impl_Colouring_counts : (Try.f61.name == "runtime.NumGoroutine") = false := by kernel_rfl

theorem walk_impl_Colouring_counts (x0 : Value) {w : World} {K : Value → World → Prop} (h : V_impl_Colouring_counts x0 w K) : Fc Try.prog 61 #[x0] w (.one .any) K :=
  fn_ok follows O_impl_Colouring_counts_1_ok Try.func61 name_impl_Colouring_counts body_impl_Colouring_counts Try.ntmps61 [x0] (Eq.mpr (eq_impl_Colouring_counts x0 w K) h)

-- uses S7Refl
theorem c_impl_Colouring_counts {p : Value} {c : Col} {w : World} {K : Value → World → Prop} (hc : c.Ok) (hI : c.Is) (hx : ColAt w p c)
    (hK : ∀ w' v, Below w.heap.size w w' → MyI w.heap.size w'.heap.size w' v (cntE c (edgesOf c.n).toNat) → K v w') : Fc Try.prog F_impl_Colouring_counts #[p] w (.one .any) K := by
  have hk0 := hI.2.2.1; have hk1 := hI.2.2.2.1; have hn0 := hI.1; have hn1 := hI.2.1
  have he := edges_bd (n := c.n) (by omega) hn1
  refine walk_impl_Colouring_counts _ ⟨hx.nonnil, col_k hx (mkI (by omega) (by omega) fun b v w1 n1 ho => ?_)⟩
  intro w2 hd
  have hb1 := n1.below
  have hd1 := hd.below w1.heap.size
  have hb2 := hb1.trans (hd1.mono hb1.size)
  have hx2 := hx.keep hb2
  refine ⟨hx2.nonnil, fld f2 hx2.nonnil hx2.isPtr (c_impl_Colouring_edges (by omega) hn1 hx2 fun w3 hb3 => ?_)⟩
  have hb3' := hb2.trans (hb3.mono hb2.size)
  have hx3 := hx.keep hb3'
  have ho3 := (ho.keep hd1).keep hb3
  have e1 := n1.here; have hs := hb3'.size
  refine slR (Col.es_row hx3) (by simp [hc.len]) (n := edgesOf c.n) (by omega) (by omega) fun s hsl => len ySB (hsl w3 (Col.es_row hx3)) ?_
  rw [show ((List.length (List.take (edgesOf c.n).toNat (c.es.map (Value.int .u8))) / 1 : Nat) : Int) = edgesOf c.n from by simp [hc.len]; omega]
  refine lp (fun e w' => 0 ≤ e ∧ e ≤ edgesOf c.n ∧ Below w.heap.size w w' ∧ OwnI w' b v (cntE c e.toNat)) (fun e _ => (edgesOf c.n - e).toNat)
    ⟨by omega, by omega, hb3', by rw [show (0 : Int).toNat = 0 from rfl, cntE_0]; exact ho3⟩ ?_
  rintro e w' N ⟨e0, e1', hb, hO⟩ hN
  have hx' := hx.keep hb
  unfold B_impl_Colouring_counts_3
  refine ⟨fun hlt => ?_, fun hge => ?_⟩
  · have hlt := dec_t hlt
    have hbd := hc.e_bd e.toNat
    have hck := hI.lt (i := e.toNat) (by omega)
    have hq : c.e e.toNat = ((c.e e.toNat).toNat : Int) := by omega
    have hbd2 := cntE_bd c e.toNat (c.e e.toNat).toNat (by omega)
    have hlen := cntE_len c e.toNat
    refine ixS ySB (hsl w' (Col.es_row hx')) e0 (by simp [hc.len]; omega) fun q hq' => ld (k := .int .u8) (x := c.e e.toNat) yB (hq' [_] fun j hj => ?_) ?_
    · have : j = 0 := by simp at hj; exact hj
      subst this
      rw [Nat.mul_one, Nat.add_zero, List.getElem?_take_of_lt (by omega), Col.e_get hc (by omega)]
      rfl
    refine atI (own_slI hO (by omega)) hbd.1 (by omega) (putI hO hbd.1 (by omega) fun w4 m4 s4 h4 => ?_)
    rw [wrap_small (by omega) (by omega)]
    have hs' := hb.size
    refine hN _ _ ⟨by omega, by omega, hb.trans (m4.below (by omega) (by simp; omega)), ?_⟩ (by omega)
    rw [wrap_small (by omega) (by omega), cntE_set c e.toNat _ hq (by omega)] at h4
    rwa [show (e + 1).toNat = e.toNat + 1 from by omega]
  · have hge := dec_f hge
    have : e = edgesOf c.n := by omega
    subst this
    intro _
    exact hK w' v hb (own_my hO (by rw [cntE_len]; omega) (by omega) hO.lt)

end Go.Proofs.Ytdnofmicjgppnaa
