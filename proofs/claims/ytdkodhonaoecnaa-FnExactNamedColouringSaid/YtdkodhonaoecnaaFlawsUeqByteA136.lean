/- The reading of laws_eqByteA136, and its contract. No condition. -/
import Derived.Test.YtdkodhonaoecnaaTy
import Derived.Test.YtdkodhonaoecnaaS1Col
namespace Go.Proofs.Ytdkodhonaoecnaa
open Go Go.RowKit Eng Mem
set_option linter.unusedVariables false
set_option maxRecDepth 100000
def B_laws_eqByteA136_2 (a2 : Value) (b3 : Value) (i5 : Int) (N : (Value × Value) → Int → World → Prop) (D0 : (Unit) → World → Prop) (R : (Bool × Unit) → World → Prop) (w : World) : Prop :=
  (((decide (i5 < (136 : Int))) = true → (∀ w_5, Drew w w_5 → (QAll Try.prog (Instr.indexAt 26 a2 (.int .i64 i5)) .any fun (x11_6 : Value) => (QSub Try.prog (Instr.loadAt 5 x11_6) w_5 (.int .u8) fun (x12_7 : Int) => (QAll Try.prog (Instr.indexAt 26 b3 (.int .i64 i5)) .any fun (x14_8 : Value) => (QSub Try.prog (Instr.loadAt 5 x14_8) w_5 (.int .u8) fun (x15_9 : Int) => (((x12_7 != x15_9) = true → R (false, ()) w_5) ∧ ((x12_7 != x15_9) = false → N ((a2 : Value), (b3 : Value)) (IntKind.i64.wrap (i5 + (1 : Int))) w_5)))))))) ∧ ((decide (i5 < (136 : Int))) = false → D0 () w))

abbrev L_laws_eqByteA136_2_e0 : List Slot := [.junk, .junk, .junk, .junk, .junk, .junk, .junk, .junk, .junk, .junk, .junk, .junk, .junk, .junk, .junk, .junk, .junk]

abbrev L_laws_eqByteA136_2_sp : List Slot := [.junk, .junk, .k .any, .k .any, .junk, .k (.int .i64), .junk, .junk, .junk, .junk, .junk, .junk, .junk, .junk, .junk, .junk, .junk]
abbrev L_laws_eqByteA136_2_ex : List (Nat × List Slot) := [(0, L_laws_eqByteA136_2_e0)]
abbrev L_laws_eqByteA136_2_rt : List Slot := [.junk, .junk, .junk, .junk, .k .bool, .junk, .junk, .junk, .junk, .junk, .junk, .junk, .junk, .junk, .junk, .junk, .junk]

def L_laws_eqByteA136_2_b (Φ : Post) (u : (Value × Value)) (N : (Value × Value) → Int → World → Prop) (s : Int) (w : World) : Prop :=
  B_laws_eqByteA136_2 u.1 u.2 s N (fun v w => ∀ j : Nat → Value, Φ (.exit 0) (mkT j 0 L_laws_eqByteA136_2_e0 v) w) (fun v w => ∀ j : Nat → Value, Φ .ret (mkT j 0 L_laws_eqByteA136_2_rt v) w) w

theorem L_laws_eqByteA136_2_eq (j : Nat → Value) (u : (Value × Value)) (s : Int) (N : (Value × Value) → Int → World → Prop) (D0 : (Unit) → World → Prop) (R : (Bool × Unit) → World → Prop) (w : World) :
    W Try.prog ty (fun _ _ _ _ => False) (loopAt Try.f57 2) (loopPost L_laws_eqByteA136_2_sp [(0, (⟨L_laws_eqByteA136_2_e0, D0⟩ : Door))] ⟨L_laws_eqByteA136_2_rt, R⟩ (fun v w => N ((fun v => (v.1, v.2.1)) v) ((fun v => v.2.2.1) v) w)) (mkT j 0 L_laws_eqByteA136_2_sp ((fun u s => (u.1, u.2, s, ())) u s)) w =
    B_laws_eqByteA136_2 u.1 u.2 s N D0 R w := by
  kernel_rfl

def O_laws_eqByteA136_1 : Code → Post → List SV → World → Prop :=
  orc 2 (loopAt Try.f57 2) L_laws_eqByteA136_2_sp (fun Φ fr w => LOOP (U := (Value × Value)) (S := Int) ((fun v => (v.1, v.2.1)) (extT L_laws_eqByteA136_2_sp fr)) (L_laws_eqByteA136_2_b Φ ((fun v => (v.1, v.2.1)) (extT L_laws_eqByteA136_2_sp fr))) ((fun v => v.2.2.1) (extT L_laws_eqByteA136_2_sp fr)) w) (fun _ _ _ _ => False)

theorem O_laws_eqByteA136_1_ok : Sound Try.prog O_laws_eqByteA136_1 :=
  orc_ok (sound_none _) fun Φ fr w hs h => loop_ok (ty := ty) follows (sound_none _) L_laws_eqByteA136_2_sp (fun v => (v.1, v.2.1)) (fun v => v.2.2.1) (fun u s => (u.1, u.2, s, ())) (fun _ => rfl) L_laws_eqByteA136_2_ex L_laws_eqByteA136_2_rt (body := L_laws_eqByteA136_2_b Φ) (fun j u s w N hb => by
    have e := L_laws_eqByteA136_2_eq j u s N (doorOf Φ (.exit 0) L_laws_eqByteA136_2_e0).D (doorOf Φ .ret L_laws_eqByteA136_2_rt).D w
    exact Eq.mpr e hb) hs h

def V_laws_eqByteA136 (a0 : Value) (b1 : Value) (w : World) (K : Bool → World → Prop) : Prop :=
  (Pr Try.prog (Instr.box 26 a0) w (.one .any) fun (a2_2 : Value) w_1 => (Pr Try.prog (Instr.box 26 b1) w_1 (.one .any) fun (b3_4 : Value) w_3 => (At (loopAt Try.f57 2) (loopAt Try.f57 2) (LOOP (U := (Value × Value)) (S := Int) ((a2_2 : Value), (b3_4 : Value)) (fun N_16 s_17 w_18 => B_laws_eqByteA136_2 (a2_2 : Value) (b3_4 : Value) s_17 N_16 (fun (v_10 : (Unit)) w_11 => ∀ _j_12 : Nat → Value, K true w_11) (fun (v_13 : (Bool × Unit)) w_14 => ∀ _j_15 : Nat → Value, K v_13.1 w_14) w_18) (0 : Int) w_3))))

theorem eq_laws_eqByteA136 (a0 : Value) (b1 : Value) (w : World) (K : Bool → World → Prop) :
    W Try.prog ty O_laws_eqByteA136_1 (bodyOf Try.f57) (fnPost Try.prog Try.f57.results.toList (.one .bool) K) (frame0 [a0, b1] 17) w = V_laws_eqByteA136 a0 b1 w K := by
  kernel_rfl

theorem body_laws_eqByteA136 : Try.f57.body = some (bodyOf Try.f57) := by kernel_rfl
theorem name_laws_eqByteA136 : (Try.f57.name == "runtime.NumGoroutine") = false := by kernel_rfl

theorem walk_laws_eqByteA136 (a0 : Value) (b1 : Value) {w : World} {K : Bool → World → Prop} (h : V_laws_eqByteA136 a0 b1 w K) : Fc Try.prog 57 #[a0, b1] w (.one .bool) K :=
  fn_ok follows O_laws_eqByteA136_1_ok Try.func57 name_laws_eqByteA136 body_laws_eqByteA136 Try.ntmps57 [a0, b1] (Eq.mpr (eq_laws_eqByteA136 a0 b1 w K) h)

-- uses S1Col
theorem c_laws_eqByteA136 {es fs : List Int} {w : World} {K : Bool → World → Prop} (h : es.length = 136) (k : fs.length = 136) (hK : ∀ w', Below w.heap.size w w' → K (decide (es = fs)) w') :
    Fc Try.prog F_laws_eqByteA136 #[.agg (es.map (Value.int .u8)).toArray, .agg (fs.map (Value.int .u8)).toArray] w (.one .bool) K := by
  refine walk_laws_eqByteA136 _ _ ?_
  refine box (es.map (Value.int .u8)) rfl fun b1 w1 n1 => box (fs.map (Value.int .u8)) rfl fun b2 w2 n2 => ?_
  have hb := n1.below.trans (n2.below.mono n1.below.size)
  have r1 : Row w2 (ptr b1 0) (es.map (Value.int .u8)) := (row_all n1.at_).keep n2.below
  have r2 : Row w2 (ptr b2 0) (fs.map (Value.int .u8)) := row_all n2.at_
  have hs := hb.size
  refine lp (fun i w' => 0 ≤ i ∧ i ≤ 136 ∧ Below w2.heap.size w2 w' ∧ ∀ j : Nat, (j : Int) < i → es.getD j 0 = fs.getD j 0) (fun i _ => (136 - i).toNat)
    ⟨by omega, by omega, Below.refl _ _, fun j hj => by omega⟩ ?_
  rintro i w3 N ⟨h0, hi, hb3, hall⟩ hN
  unfold B_laws_eqByteA136_2
  refine ⟨fun hlt w4 hd => ?_, fun hge => ?_⟩
  · have hlt := dec_t hlt
    have hb4 := hb3.trans (hd.below _)
    have q1 := r1.keep hb4; have q2 := r2.keep hb4
    refine ixR yR q1.isPtr h0 hlt (ld (k := .int .u8) (x := es.getD i.toNat 0) yB (by rw [Nat.mul_one]; exact q1.get _ (by simp [show i.toNat < es.length from by omega])) ?_)
    refine ixR yR q2.isPtr h0 hlt (ld (k := .int .u8) (x := fs.getD i.toNat 0) yB (by rw [Nat.mul_one]; exact q2.get _ (by simp [show i.toNat < fs.length from by omega])) ?_)
    refine ⟨fun hne _ => ?_, fun he => ?_⟩
    · have := hK w4 (hb.trans (hb4.mono hs))
      rwa [decide_eq_false (fun hh => ne_t hne (by rw [hh]))] at this
    · have he := ne_f he
      rw [wrap_small (by omega) (by omega)]
      refine hN _ _ ⟨by omega, by omega, hb4, fun j hj => ?_⟩ (by omega)
      by_cases hji : (j : Int) < i
      · exact hall j hji
      · have : j = i.toNat := by omega
        subst this; exact he
  · have hge := dec_f hge
    intro _
    have := hK w3 (hb.trans (hb3.mono hs))
    have e : es = fs := List.ext_getElem (by omega) fun j h1 h2 => by
      have := hall j (by omega)
      simpa [List.getD, h1, h2] using this
    rwa [decide_eq_true e] at this

end Go.Proofs.Ytdkodhonaoecnaa
