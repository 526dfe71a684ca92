/- The reading of impl_Colouring_isColouring, and its contract. No condition. -/
import Derived.Test.YtkadckhealbdaaaTy
import Derived.Test.YtkadckhealbdaaaS1Col
import Derived.Test.YtkadckhealbdaaaFimplUColouringUedges
import Derived.Test.YtkadckhealbdaaaFimplUin
namespace Go.Proofs.Ytkadckhealbdaaa
open Go Go.RowKit Eng Mem
set_option linter.unusedVariables false
set_option maxRecDepth 100000
def B_impl_Colouring_isColouring_4 (x0 : Value) (x22 : Value) (x23 : Int) (N : (Value × Value) → Int → World → Prop) (D0 : (Unit) → World → Prop) (R : (Bool × Unit) → World → Prop) (w : World) : Prop :=
  (((decide (x23 < (136 : Int))) = true → (QAll Try.prog (Instr.index 22 x22 (.int .i64 x23)) (.int .u8) fun (x26_11 : Int) => (QAll Try.prog (convert 5 2 (.int .u8 x26_11)) (.int .i64) fun (x28_12 : Int) => (NilOk x0 ∧ (QAll Try.prog (Instr.fieldAt 25 x0 1) .any fun (x31_13 : Value) => (QSub Try.prog (Instr.loadAt 2 x31_13) w (.int .i64) fun (x32_14 : Int) => (((decide (x28_12 ≥ x32_14)) = true → R (false, ()) w) ∧ ((decide (x28_12 ≥ x32_14)) = false → (Fc Try.prog 98 #[x0] w (.one (.int .i64)) fun (x37_16 : Int) w_15 => (((decide (x23 ≥ x37_16)) = true → (((x26_11 != (0 : Int)) = true → R (false, ()) w_15) ∧ ((x26_11 != (0 : Int)) = false → N ((x0 : Value), (x22 : Value)) (IntKind.i64.wrap (x23 + (1 : Int))) w_15))) ∧ ((decide (x23 ≥ x37_16)) = false → N ((x0 : Value), (x22 : Value)) (IntKind.i64.wrap (x23 + (1 : Int))) w_15))))))))))) ∧ ((decide (x23 < (136 : Int))) = false → D0 () w))

abbrev L_impl_Colouring_isColouring_4_e0 : List Slot := [.junk, .junk, .junk, .junk, .junk, .junk, .junk, .junk, .junk, .junk, .junk, .junk, .junk, .junk, .junk, .junk, .junk, .junk, .junk, .junk, .junk, .junk, .junk, .junk, .junk, .junk, .junk, .junk, .junk, .junk, .junk, .junk, .junk, .junk, .junk, .junk, .junk, .junk, .junk, .junk, .junk, .junk, .junk, .junk, .junk]

abbrev L_impl_Colouring_isColouring_4_sp : List Slot := [.k .any, .junk, .junk, .junk, .junk, .junk, .junk, .junk, .junk, .junk, .junk, .junk, .junk, .junk, .junk, .junk, .junk, .junk, .junk, .junk, .junk, .junk, .k .any, .k (.int .i64), .junk, .junk, .junk, .junk, .junk, .junk, .junk, .junk, .junk, .junk, .junk, .junk, .junk, .junk, .junk, .junk, .junk, .junk, .junk, .junk, .junk]
abbrev L_impl_Colouring_isColouring_4_ex : List (Nat × List Slot) := [(0, L_impl_Colouring_isColouring_4_e0)]
abbrev L_impl_Colouring_isColouring_4_rt : List Slot := [.junk, .junk, .k .bool, .junk, .junk, .junk, .junk, .junk, .junk, .junk, .junk, .junk, .junk, .junk, .junk, .junk, .junk, .junk, .junk, .junk, .junk, .junk, .junk, .junk, .junk, .junk, .junk, .junk, .junk, .junk, .junk, .junk, .junk, .junk, .junk, .junk, .junk, .junk, .junk, .junk, .junk, .junk, .junk, .junk, .junk]

def L_impl_Colouring_isColouring_4_b (Φ : Post) (u : (Value × Value)) (N : (Value × Value) → Int → World → Prop) (s : Int) (w : World) : Prop :=
  B_impl_Colouring_isColouring_4 u.1 u.2 s N (fun v w => ∀ j : Nat → Value, Φ (.exit 0) (mkT j 0 L_impl_Colouring_isColouring_4_e0 v) w) (fun v w => ∀ j : Nat → Value, Φ .ret (mkT j 0 L_impl_Colouring_isColouring_4_rt v) w) w

theorem L_impl_Colouring_isColouring_4_eq (j : Nat → Value) (u : (Value × Value)) (s : Int) (N : (Value × Value) → Int → World → Prop) (D0 : (Unit) → World → Prop) (R : (Bool × Unit) → World → Prop) (w : World) :
    W Try.prog ty (fun _ _ _ _ => False) (loopAt Try.f67 4) (loopPost L_impl_Colouring_isColouring_4_sp [(0, (⟨L_impl_Colouring_isColouring_4_e0, D0⟩ : Door))] ⟨L_impl_Colouring_isColouring_4_rt, R⟩ (fun v w => N ((fun v => (v.1, v.2.1)) v) ((fun v => v.2.2.1) v) w)) (mkT j 0 L_impl_Colouring_isColouring_4_sp ((fun u s => (u.1, u.2, s, ())) u s)) w =
    B_impl_Colouring_isColouring_4 u.1 u.2 s N D0 R w := by
  kernel_rfl

def O_impl_Colouring_isColouring_1 : Code → Post → List SV → World → Prop :=
  orc 4 (loopAt Try.f67 4) L_impl_Colouring_isColouring_4_sp (fun Φ fr w => LOOP (U := (Value × Value)) (S := Int) ((fun v => (v.1, v.2.1)) (extT L_impl_Colouring_isColouring_4_sp fr)) (L_impl_Colouring_isColouring_4_b Φ ((fun v => (v.1, v.2.1)) (extT L_impl_Colouring_isColouring_4_sp fr))) ((fun v => v.2.2.1) (extT L_impl_Colouring_isColouring_4_sp fr)) w) (fun _ _ _ _ => False)

theorem O_impl_Colouring_isColouring_1_ok : Sound Try.prog O_impl_Colouring_isColouring_1 :=
  orc_ok (sound_none _) fun Φ fr w hs h => loop_ok (ty := ty) follows (sound_none _) L_impl_Colouring_isColouring_4_sp (fun v => (v.1, v.2.1)) (fun v => v.2.2.1) (fun u s => (u.1, u.2, s, ())) (fun _ => rfl) L_impl_Colouring_isColouring_4_ex L_impl_Colouring_isColouring_4_rt (body := L_impl_Colouring_isColouring_4_b Φ) (fun j u s w N hb => by
    have e := L_impl_Colouring_isColouring_4_eq j u s N (doorOf Φ (.exit 0) L_impl_Colouring_isColouring_4_e0).D (doorOf Φ .ret L_impl_Colouring_isColouring_4_rt).D w
    exact Eq.mpr e hb) hs h

def V_impl_Colouring_isColouring (x0 : Value) (w : World) (K : Bool → World → Prop) : Prop :=
  (NilOk x0 ∧ (QAll Try.prog (Instr.fieldAt 25 x0 0) .any fun (x7_1 : Value) => (QSub Try.prog (Instr.loadAt 2 x7_1) w (.int .i64) fun (x8_2 : Int) => (Fc Try.prog 54 #[(.int .i64 x8_2), (.int .i64 (1 : Int)), (.int .i64 (17 : Int))] w (.one .bool) fun (x9_4 : Bool) w_3 => (((!x9_4) = true → K false w_3) ∧ ((!x9_4) = false → (NilOk x0 ∧ (QAll Try.prog (Instr.fieldAt 25 x0 1) .any fun (x14_5 : Value) => (QSub Try.prog (Instr.loadAt 2 x14_5) w_3 (.int .i64) fun (x15_6 : Int) => (Fc Try.prog 54 #[(.int .i64 x15_6), (.int .i64 (1 : Int)), (.int .i64 (4 : Int))] w_3 (.one .bool) fun (x16_8 : Bool) w_7 => (((!x16_8) = true → K false w_7) ∧ ((!x16_8) = false → (NilOk x0 ∧ (QAll Try.prog (Instr.fieldAt 25 x0 2) .any fun (x21_9 : Value) => (QSub Try.prog (Instr.loadAt 22 x21_9) w_7 .any fun (x22_10 : Value) => (At (loopAt Try.f67 4) (loopAt Try.f67 4) (LOOP (U := (Value × Value)) (S := Int) ((x0 : Value), (x22_10 : Value)) (fun N_23 s_24 w_25 => B_impl_Colouring_isColouring_4 (x0 : Value) (x22_10 : Value) s_24 N_23 (fun (v_17 : (Unit)) w_18 => ∀ _j_19 : Nat → Value, K true w_18) (fun (v_20 : (Bool × Unit)) w_21 => ∀ _j_22 : Nat → Value, K v_20.1 w_21) w_25) (0 : Int) w_7)))))))))))))))))

theorem eq_impl_Colouring_isColouring (x0 : Value) (w : World) (K : Bool → World → Prop) :
    W Try.prog ty O_impl_Colouring_isColouring_1 (bodyOf Try.f67) (fnPost Try.prog Try.f67.results.toList (.one .bool) K) (frame0 [x0] 45) w = V_impl_Colouring_isColouring x0 w K := by
  kernel_rfl

theorem body_impl_Colouring_isColouring : Try.f67.body = some (bodyOf Try.f67) := by kernel_rfl
theorem name_impl_Colouring_isColouring : (Try.f67.name == "runtime.NumGoroutine") = false := by kernel_rfl

theorem walk_impl_Colouring_isColouring (x0 : Value) {w : World} {K : Bool → World → Prop} (h : V_impl_Colouring_isColouring x0 w K) : Fc Try.prog 67 #[x0] w (.one .bool) K :=
  fn_ok follows O_impl_Colouring_isColouring_1_ok Try.func67 name_impl_Colouring_isColouring body_impl_Colouring_isColouring Try.ntmps67 [x0] (Eq.mpr (eq_impl_Colouring_isColouring x0 w K) h)

-- uses S1Col
theorem c_impl_Colouring_isColouring {p : Value} {c : Col} {w : World} {K : Bool → World → Prop} (h : c.Ok) (hx : ColAt w p c) (hK : ∀ w', Below w.heap.size w w' → K (decide c.Is) w') :
    Fc Try.prog F_impl_Colouring_isColouring #[p] w (.one .bool) K := by
  have no : ∀ w', Below w.heap.size w w' → ¬ c.Is → K false w' := fun w' hb hn => by rw [← Col.is_false hn]; exact hK w' hb
  refine walk_impl_Colouring_isColouring p ?_
  refine ⟨hx.nonnil, col_n hx (c_impl_in _ _ _ ⟨fun h1 => ?_, fun h1 => ?_⟩)⟩
  · exact no w (Below.refl _ _) fun hi => by simp [hi.1, hi.2.1] at h1
  have h1 : 1 ≤ c.n ∧ c.n ≤ 17 := by simpa using h1
  refine ⟨hx.nonnil, col_k hx (c_impl_in _ _ _ ⟨fun h2 => ?_, fun h2 => ?_⟩)⟩
  · exact no w (Below.refl _ _) fun hi => by simp [hi.2.2.1, hi.2.2.2.1] at h2
  have h2 : 1 ≤ c.k ∧ c.k ≤ 4 := by simpa using h2
  refine ⟨hx.nonnil, fld f2 hx.nonnil hx.isPtr (ldA yA h.es_len (Col.es_row hx) ?_)⟩
  refine ⟨rfl, ⟨⟨fun i w' => 0 ≤ i ∧ i ≤ 136 ∧ Below w.heap.size w w' ∧ ∀ j : Nat, (j : Int) < i → c.at_ j, fun i _ => (136 - i).toNat, ⟨by omega, by omega, Below.refl _ _, fun j hj => by omega⟩, ?_⟩⟩⟩
  rintro i w' ⟨h0, hi, hb, hall⟩
  have hx' := hx.keep hb
  unfold B_impl_Colouring_isColouring_4
  refine ⟨fun hlt => ?_, fun hge => ?_⟩
  · have hlt := of_decide_eq_true hlt
    have hbd := h.e_bd i.toNat
    have hit : ((i.toNat : Nat) : Int) = i := by omega
    have next : ∀ w'', Below w.heap.size w w'' → c.at_ i.toNat → (i + 1 = i + 1 ∧ (0 ≤ i + 1 ∧ i + 1 ≤ 136 ∧ Below w.heap.size w w'' ∧ ∀ j : Nat, (j : Int) < i + 1 → c.at_ j) ∧ (136 - (i + 1)).toNat < (136 - i).toNat) := fun w'' hb'' ha =>
      ⟨rfl, ⟨by omega, by omega, hb'', fun j hj => by
        by_cases hji : (j : Int) < i
        · exact hall j hji
        · have : j = i.toNat := by omega
          subst this; exact ha⟩, by omega⟩
    have fail : ∀ w'', Below w.heap.size w w'' → ¬ c.at_ i.toNat → K false w'' := fun w'' hb'' hn => no w'' hb'' fun hI => hn (hI.2.2.2.2 i.toNat (by omega))
    refine ixV Try.underlyingTA yB h0 hlt (Col.e_get h (by omega)) ?_
    refine u8_int hbd.1 hbd.2 ⟨hx'.nonnil, col_k hx' ⟨fun hc => ?_, fun hc => ?_⟩⟩
    · have hc := of_decide_eq_true hc
      refine fun _ => fail w' hb fun ha => ?_
      unfold Col.at_ at ha
      split at ha <;> omega
    have hc := of_decide_eq_false hc
    refine c_impl_Colouring_edges (by omega) h1.2 hx' fun w'' hb'' => ?_
    have hbb := hb.trans (hb''.mono hb.size)
    refine ⟨fun he => ⟨fun hz => ?_, fun hz => ?_⟩, fun he => ?_⟩
    · have he := of_decide_eq_true he
      refine fun _ => fail w'' hbb fun ha => ?_
      unfold Col.at_ at ha
      rw [if_neg (by omega)] at ha
      simp [ha] at hz
    · have he := of_decide_eq_true he
      rw [wrap_small (by omega) (by omega)]
      have := next w'' hbb (by unfold Col.at_; rw [if_neg (by omega)]; simpa using hz)
      exact ⟨rfl, this.2⟩
    · have he := of_decide_eq_false he
      rw [wrap_small (by omega) (by omega)]
      have := next w'' hbb (by unfold Col.at_; rw [if_pos (by omega)]; omega)
      exact ⟨rfl, this.2⟩
  · have hge := of_decide_eq_false hge
    intro _
    have : c.Is := ⟨h1.1, h1.2, h2.1, h2.2, fun j hj => hall j (by omega)⟩
    rw [← Col.is_true this]
    exact hK w' hb

end Go.Proofs.Ytkadckhealbdaaa
