/- The reading of spec_l03Digital, and its contract. No condition. -/
import Derived.Test.YtdkodhonaoecnaaTy
import Derived.Test.YtdkodhonaoecnaaS6Tri
import Derived.Test.YtdkodhonaoecnaaFspecUl01Edge
namespace Go.Proofs.Ytdkodhonaoecnaa
open Go Go.RowKit Eng Mem
set_option linter.unusedVariables false
set_option maxRecDepth 100000
def B_spec_l03Digital_6 (n0 : Int) (list2 : Value) (x6 : Value) (out7 : Value) (j8 : Int) (i9 : Int) (N : (Int × Value × Value × Value × Int) → Int → World → Prop) (D2 : (Int × Value × Value × Value × Int × Unit) → World → Prop) (w : World) : Prop :=
  (((decide (i9 < j8)) = true → (∀ w_9, Drew w w_9 → (QAll Try.prog (Instr.indexAt 25 list2 (.int .i64 (IntKind.i64.wrap ((IntKind.i64.wrap ((BitVec.toNat (BitVec.ofInt (IntKind.bits .i64) i9 ^^^ BitVec.ofInt (IntKind.bits .i64) j8) : Nat))) - (1 : Int))))) .any fun (x31_10 : Value) => (QSub Try.prog (Instr.loadAt 2 x31_10) w_9 (.int .i64) fun (x32_11 : Int) => (QAll Try.prog (convert 2 5 (.int .i64 x32_11)) (.int .u8) fun (x33_12 : Int) => (QAll Try.prog (Instr.fieldAt 28 out7 2) .any fun (x34_13 : Value) => (Fc Try.prog 66 #[(.int .i64 i9), (.int .i64 j8)] w_9 (.one (.int .i64)) fun (x25_15 : Int) w_14 => (Keeps w_9 w_14 ((QAll Try.prog (Instr.indexAt 26 x34_13 (.int .i64 x25_15)) .any fun (x35_16 : Value) => (PrU Try.prog (Instr.storeAt 5 x35_16 (.int .u8 x33_12)) w_14 fun w_17 => N (n0, (list2 : Value), (x6 : Value), (out7 : Value), j8) (IntKind.i64.wrap (i9 + (1 : Int))) w_17))))))))))) ∧ ((decide (i9 < j8)) = false → D2 (n0, (list2 : Value), (x6 : Value), (out7 : Value), j8, ()) w))

abbrev L_spec_l03Digital_6_e2 : List Slot := [.k (.int .i64), .junk, .k .any, .junk, .junk, .junk, .k .any, .k .any, .k (.int .i64), .junk, .junk, .junk, .junk, .junk, .junk, .junk, .junk, .junk, .junk, .junk, .junk, .junk, .junk, .junk, .junk, .junk, .junk, .junk, .junk, .junk, .junk, .junk, .junk, .junk, .junk, .junk, .junk]

abbrev L_spec_l03Digital_6_sp : List Slot := [.k (.int .i64), .junk, .k .any, .junk, .junk, .junk, .k .any, .k .any, .k (.int .i64), .k (.int .i64), .junk, .junk, .junk, .junk, .junk, .junk, .junk, .junk, .junk, .junk, .junk, .junk, .junk, .junk, .junk, .junk, .junk, .junk, .junk, .junk, .junk, .junk, .junk, .junk, .junk, .junk, .junk]
abbrev L_spec_l03Digital_6_ex : List (Nat × List Slot) := [(2, L_spec_l03Digital_6_e2)]
abbrev L_spec_l03Digital_6_rt : List Slot := [.junk, .junk, .junk, .junk, .junk, .junk, .junk, .junk, .junk, .junk, .junk, .junk, .junk, .junk, .junk, .junk, .junk, .junk, .junk, .junk, .junk, .junk, .junk, .junk, .junk, .junk, .junk, .junk, .junk, .junk, .junk, .junk, .junk, .junk, .junk, .junk, .junk]

def L_spec_l03Digital_6_b (Φ : Post) (u : (Int × Value × Value × Value × Int)) (N : (Int × Value × Value × Value × Int) → Int → World → Prop) (s : Int) (w : World) : Prop :=
  B_spec_l03Digital_6 u.1 u.2.1 u.2.2.1 u.2.2.2.1 u.2.2.2.2 s N (fun v w => ∀ j : Nat → Value, Φ (.exit 2) (mkT j 0 L_spec_l03Digital_6_e2 v) w) w

theorem L_spec_l03Digital_6_eq (j : Nat → Value) (u : (Int × Value × Value × Value × Int)) (s : Int) (N : (Int × Value × Value × Value × Int) → Int → World → Prop) (D2 : (Int × Value × Value × Value × Int × Unit) → World → Prop) (R : (Unit) → World → Prop) (w : World) :
    W Try.prog ty (fun _ _ _ _ => False) (loopAt Try.f96 6) (loopPost L_spec_l03Digital_6_sp [(2, (⟨L_spec_l03Digital_6_e2, D2⟩ : Door))] ⟨L_spec_l03Digital_6_rt, R⟩ (fun v w => N ((fun v => (v.1, v.2.1, v.2.2.1, v.2.2.2.1, v.2.2.2.2.1)) v) ((fun v => v.2.2.2.2.2.1) v) w)) (mkT j 0 L_spec_l03Digital_6_sp ((fun u s => (u.1, u.2.1, u.2.2.1, u.2.2.2.1, u.2.2.2.2, s, ())) u s)) w =
    B_spec_l03Digital_6 u.1 u.2.1 u.2.2.1 u.2.2.2.1 u.2.2.2.2 s N D2 w := by
  kernel_rfl

def O_spec_l03Digital_1 : Code → Post → List SV → World → Prop :=
  orc 6 (loopAt Try.f96 6) L_spec_l03Digital_6_sp (fun Φ fr w => LOOP (U := (Int × Value × Value × Value × Int)) (S := Int) ((fun v => (v.1, v.2.1, v.2.2.1, v.2.2.2.1, v.2.2.2.2.1)) (extT L_spec_l03Digital_6_sp fr)) (L_spec_l03Digital_6_b Φ ((fun v => (v.1, v.2.1, v.2.2.1, v.2.2.2.1, v.2.2.2.2.1)) (extT L_spec_l03Digital_6_sp fr))) ((fun v => v.2.2.2.2.2.1) (extT L_spec_l03Digital_6_sp fr)) w) (fun _ _ _ _ => False)

theorem O_spec_l03Digital_1_ok : Sound Try.prog O_spec_l03Digital_1 :=
  orc_ok (sound_none _) fun Φ fr w hs h => loop_ok (ty := ty) follows (sound_none _) L_spec_l03Digital_6_sp (fun v => (v.1, v.2.1, v.2.2.1, v.2.2.2.1, v.2.2.2.2.1)) (fun v => v.2.2.2.2.2.1) (fun u s => (u.1, u.2.1, u.2.2.1, u.2.2.2.1, u.2.2.2.2, s, ())) (fun _ => rfl) L_spec_l03Digital_6_ex L_spec_l03Digital_6_rt (body := L_spec_l03Digital_6_b Φ) (fun j u s w N hb => by
    have e := L_spec_l03Digital_6_eq j u s N (doorOf Φ (.exit 2) L_spec_l03Digital_6_e2).D (doorOf Φ .ret L_spec_l03Digital_6_rt).D w
    exact Eq.mpr e hb) hs h

def B_spec_l03Digital_3 (n0 : Int) (list2 : Value) (x6 : Value) (out7 : Value) (j8 : Int) (N : (Int × Value × Value × Value) → Int → World → Prop) (D0 : (Value × Value × Unit) → World → Prop) (w : World) : Prop :=
  (((decide (j8 < n0)) = true → (At (loopAt Try.f96 6) (loopAt Try.f96 6) (LOOP (U := (Int × Value × Value × Value × Int)) (S := Int) (n0, (list2 : Value), (x6 : Value), (out7 : Value), j8) (fun N_22 s_23 w_24 => B_spec_l03Digital_6 n0 (list2 : Value) (x6 : Value) (out7 : Value) j8 s_23 N_22 (fun (v_19 : (Int × Value × Value × Value × Int × Unit)) w_20 => ∀ _j_21 : Nat → Value, N (v_19.1, (v_19.2.1 : Value), (v_19.2.2.1 : Value), (v_19.2.2.2.1 : Value)) (IntKind.i64.wrap (v_19.2.2.2.2.1 + (1 : Int))) w_20) w_24) (0 : Int) w))) ∧ ((decide (j8 < n0)) = false → D0 ((x6 : Value), (out7 : Value), ()) w))

abbrev L_spec_l03Digital_3_e0 : List Slot := [.junk, .junk, .junk, .junk, .junk, .junk, .k .any, .k .any, .junk, .junk, .junk, .junk, .junk, .junk, .junk, .junk, .junk, .junk, .junk, .junk, .junk, .junk, .junk, .junk, .junk, .junk, .junk, .junk, .junk, .junk, .junk, .junk, .junk, .junk, .junk, .junk, .junk]

abbrev L_spec_l03Digital_3_sp : List Slot := [.k (.int .i64), .junk, .k .any, .junk, .junk, .junk, .k .any, .k .any, .k (.int .i64), .junk, .junk, .junk, .junk, .junk, .junk, .junk, .junk, .junk, .junk, .junk, .junk, .junk, .junk, .junk, .junk, .junk, .junk, .junk, .junk, .junk, .junk, .junk, .junk, .junk, .junk, .junk, .junk]
abbrev L_spec_l03Digital_3_ex : List (Nat × List Slot) := [(0, L_spec_l03Digital_3_e0)]
abbrev L_spec_l03Digital_3_rt : List Slot := [.junk, .junk, .junk, .junk, .junk, .junk, .junk, .junk, .junk, .junk, .junk, .junk, .junk, .junk, .junk, .junk, .junk, .junk, .junk, .junk, .junk, .junk, .junk, .junk, .junk, .junk, .junk, .junk, .junk, .junk, .junk, .junk, .junk, .junk, .junk, .junk, .junk]

def L_spec_l03Digital_3_b (Φ : Post) (u : (Int × Value × Value × Value)) (N : (Int × Value × Value × Value) → Int → World → Prop) (s : Int) (w : World) : Prop :=
  B_spec_l03Digital_3 u.1 u.2.1 u.2.2.1 u.2.2.2 s N (fun v w => ∀ j : Nat → Value, Φ (.exit 0) (mkT j 0 L_spec_l03Digital_3_e0 v) w) w

theorem L_spec_l03Digital_3_eq (j : Nat → Value) (u : (Int × Value × Value × Value)) (s : Int) (N : (Int × Value × Value × Value) → Int → World → Prop) (D0 : (Value × Value × Unit) → World → Prop) (R : (Unit) → World → Prop) (w : World) :
    W Try.prog ty O_spec_l03Digital_1 (loopAt Try.f96 3) (loopPost L_spec_l03Digital_3_sp [(0, (⟨L_spec_l03Digital_3_e0, D0⟩ : Door))] ⟨L_spec_l03Digital_3_rt, R⟩ (fun v w => N ((fun v => (v.1, v.2.1, v.2.2.1, v.2.2.2.1)) v) ((fun v => v.2.2.2.2.1) v) w)) (mkT j 0 L_spec_l03Digital_3_sp ((fun u s => (u.1, u.2.1, u.2.2.1, u.2.2.2, s, ())) u s)) w =
    B_spec_l03Digital_3 u.1 u.2.1 u.2.2.1 u.2.2.2 s N D0 w := by
  kernel_rfl

def O_spec_l03Digital_2 : Code → Post → List SV → World → Prop :=
  orc 3 (loopAt Try.f96 3) L_spec_l03Digital_3_sp (fun Φ fr w => LOOP (U := (Int × Value × Value × Value)) (S := Int) ((fun v => (v.1, v.2.1, v.2.2.1, v.2.2.2.1)) (extT L_spec_l03Digital_3_sp fr)) (L_spec_l03Digital_3_b Φ ((fun v => (v.1, v.2.1, v.2.2.1, v.2.2.2.1)) (extT L_spec_l03Digital_3_sp fr))) ((fun v => v.2.2.2.2.1) (extT L_spec_l03Digital_3_sp fr)) w) O_spec_l03Digital_1

theorem O_spec_l03Digital_2_ok : Sound Try.prog O_spec_l03Digital_2 :=
  orc_ok O_spec_l03Digital_1_ok fun Φ fr w hs h => loop_ok (ty := ty) follows O_spec_l03Digital_1_ok L_spec_l03Digital_3_sp (fun v => (v.1, v.2.1, v.2.2.1, v.2.2.2.1)) (fun v => v.2.2.2.2.1) (fun u s => (u.1, u.2.1, u.2.2.1, u.2.2.2, s, ())) (fun _ => rfl) L_spec_l03Digital_3_ex L_spec_l03Digital_3_rt (body := L_spec_l03Digital_3_b Φ) (fun j u s w N hb => by
    have e := L_spec_l03Digital_3_eq j u s N (doorOf Φ (.exit 0) L_spec_l03Digital_3_e0).D (doorOf Φ .ret L_spec_l03Digital_3_rt).D w
    exact Eq.mpr e hb) hs h

def V_spec_l03Digital (n0 : Int) (k1 : Int) (list2 : Value) (w : World) (K : Value → World → Prop) : Prop :=
  (Pr Try.prog (Instr.alloc 28 true (.tuple #[])) w (.one .any) fun (x6_2 : Value) w_1 => (Pr Try.prog (Instr.build 28 #[(0, (.int .i64 n0)), (1, (.int .i64 k1))]) w_1 (.one .any) fun (x12_4 : Value) w_3 => (Pr Try.prog (Instr.alloc 28 true (.tuple #[])) w_3 (.one .any) fun (out7_6 : Value) w_5 => (PrU Try.prog (Instr.storeAt 28 out7_6 x12_4) w_5 fun w_7 => (At (loopAt Try.f96 3) (loopAt Try.f96 3) (LOOP (U := (Int × Value × Value × Value)) (S := Int) (n0, (list2 : Value), (x6_2 : Value), (out7_6 : Value)) (fun N_32 s_33 w_34 => B_spec_l03Digital_3 n0 (list2 : Value) (x6_2 : Value) (out7_6 : Value) s_33 N_32 (fun (v_25 : (Value × Value × Unit)) w_26 => ∀ _j_27 : Nat → Value, (QSub Try.prog (Instr.loadAt 28 v_25.2.1) w_26 .any fun (x36_28 : Value) => (PrU Try.prog (Instr.storeAt 28 v_25.1 x36_28) w_26 fun w_29 => (QSub Try.prog (Instr.loadAt 28 v_25.1) w_29 .any fun (r_31 : Value) => K (r_31 : Value) w_29)))) w_34) (1 : Int) w_7))))))

theorem eq_spec_l03Digital (n0 : Int) (k1 : Int) (list2 : Value) (w : World) (K : Value → World → Prop) :
    W Try.prog ty O_spec_l03Digital_2 (bodyOf Try.f96) (fnPost Try.prog Try.f96.results.toList (.one .any) K) (frame0 [(.int .i64 n0), (.int .i64 k1), list2] 37) w = V_spec_l03Digital n0 k1 list2 w K := by
  kernel_rfl

theorem body_spec_l03Digital : Try.f96.body = some (bodyOf Try.f96) := by kernel_rfl
theorem name_spec_l03Digital : (Try.f96.name == "runtime.NumGoroutine") = false := by kernel_rfl

theorem walk_spec_l03Digital (n0 : Int) (k1 : Int) (list2 : Value) {w : World} {K : Value → World → Prop} (h : V_spec_l03Digital n0 k1 list2 w K) : Fc Try.prog 96 #[(.int .i64 n0), (.int .i64 k1), list2] w (.one .any) K :=
  fn_ok follows O_spec_l03Digital_2_ok Try.func96 name_spec_l03Digital body_spec_l03Digital Try.ntmps96 [(.int .i64 n0), (.int .i64 k1), list2] (Eq.mpr (eq_spec_l03Digital n0 k1 list2 w K) h)

-- uses S6Tri
theorem c_spec_l03Digital {d : Nat} {k : Int} {a : Value} {l : List Int} {w : World} {K : Value → World → Prop} (d1 : d ≤ 4) (hk : I64 k) (ha : SlI w a l) (hl : (l.length : Int) = 2 ^ d - 1) (hin : AllIn l 0 255)
    (hok : (colG (2 ^ d) k fun i j => l.getD (xr i j - 1).toNat 0).Ok) (hK : ∀ w', Below w.heap.size w w' → K (colG (2 ^ d) k fun i j => l.getD (xr i j - 1).toNat 0).val w') :
    Fc Try.prog F_spec_l03Digital #[.int .i64 (2 ^ d), .int .i64 k, a] w (.one .any) K := by
  generalize hn : (2 : Int) ^ d = n at *
  have n1 : 1 ≤ n ∧ n ≤ 16 := by
    have : d = 0 ∨ d = 1 ∨ d = 2 ∨ d = 3 ∨ d = 4 := by omega
    rcases this with h | h | h | h | h <;> subst h <;> simp at hn <;> omega
  refine walk_spec_l03Digital _ _ _ (tri_start (fun i j => l.getD (xr i j - 1).toNat 0) fun p b w1 ht => ?_)
  refine lp (fun j w' => 1 ≤ j ∧ j ≤ n ∧ Tri w w' p b n k (fun i j => l.getD (xr i j - 1).toNat 0) (edgesOf j)) (fun j _ => (n - j).toNat) ⟨by omega, by omega, ht⟩ ?_
  rintro j w2 N ⟨j0, j1, h2⟩ hN
  unfold B_spec_l03Digital_3
  refine ⟨fun hlt => ?_, fun hge => ?_⟩
  · have hlt := dec_t hlt
    refine lp (fun i w' => 0 ≤ i ∧ i ≤ j ∧ Tri w w' p b n k (fun i j => l.getD (xr i j - 1).toNat 0) (edgesOf j + i)) (fun i _ => (j - i).toNat) ⟨by omega, by omega, by rw [Int.add_zero]; exact h2⟩ ?_
    rintro i w3 N' ⟨i0, i1, h3⟩ hN'
    unfold B_spec_l03Digital_6
    refine ⟨fun hlt2 => ?_, fun hge2 => ?_⟩
    · have hlt2 := dec_t hlt2
      have hd := xr_bd (d := d) i0 hlt2 (by omega)
      rw [hn] at hd
      intro w4 hdr
      have hb4 := hdr.below w3.heap.size
      have h4 := h3.keep hb4
      rw [wxor i0 (by omega) (by omega) (by omega), wrap_small (by omega) (by omega)]
      have hx := hin.get (i := (xr i j - 1).toNat) (by omega)
      refine atI (ha.keep h4.bel) (by omega) (by omega) (int_u8 hx.1 (by omega) (fldp f2 (c_spec_l01Edge i0 (by omega) (by omega) (by omega) ⟨Below.refl _ _, h4.put i0 hlt2 (by omega) fun w5 h5 => ?_⟩)))
      rw [wrap_small (by omega) (by omega)]
      exact hN' _ _ ⟨by omega, by omega, h5⟩ (by omega)
    · have hge2 := dec_f hge2
      have : i = j := by omega
      subst this
      intro _
      show N _ (IntKind.i64.wrap (i + 1)) w3
      rw [wrap_small (by omega) (by omega)]
      exact hN _ _ ⟨by omega, by omega, by rw [edgesOf_succ]; exact h3⟩ (by omega)
  · have hge := dec_f hge
    have : j = n := by omega
    subst this
    intro _
    exact tri_end hok h2 hK

end Go.Proofs.Ytdkodhonaoecnaa
