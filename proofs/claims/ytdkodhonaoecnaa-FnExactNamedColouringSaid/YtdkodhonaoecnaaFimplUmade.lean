/- The reading of impl_made, and its contract. No condition. -/
import Derived.Test.YtdkodhonaoecnaaTy
import Derived.Test.YtdkodhonaoecnaaS5Made
import Derived.Test.YtdkodhonaoecnaaFimplUColouringUput
namespace Go.Proofs.Ytdkodhonaoecnaa
open Go Go.RowKit Eng Mem
set_option linter.unusedVariables false
set_option maxRecDepth 100000
def B_impl_made_6 (of2 : Value) (x6 : Value) (x7 : Value) (j8 : Int) (x13 : Int) (x14 : Int) (x17 : Int) (x18 : Int) (N : (Value × Value × Value × Int × Int × Int × Int) → Int → World → Prop) (D2 : (Value × Value × Value × Int × Int × Unit) → World → Prop) (w : World) : Prop :=
  (((decide (x18 < x17)) = true → (callV Try.prog of2 #[(.int .i64 x18), (.int .i64 j8)] w (.one (.int .i64)) fun (x26_10 : Int) w_9 => (Fc Try.prog 76 #[x7, (.int .i64 x18), (.int .i64 j8), (.int .i64 x26_10)] w_9 .unit fun (x27_12 : Unit) w_11 => N ((of2 : Value), (x6 : Value), (x7 : Value), j8, x13, x14, x17) (IntKind.i64.wrap (x18 + (1 : Int))) w_11))) ∧ ((decide (x18 < x17)) = false → D2 ((of2 : Value), (x6 : Value), (x7 : Value), x13, x14, ()) w))

abbrev L_impl_made_6_e2 : List Slot := [.junk, .junk, .k .any, .junk, .junk, .junk, .k .any, .k .any, .junk, .junk, .junk, .junk, .junk, .k (.int .i64), .k (.int .i64), .junk, .junk, .junk, .junk, .junk, .junk, .junk, .junk, .junk, .junk, .junk, .junk, .junk, .junk, .junk, .junk]

abbrev L_impl_made_6_sp : List Slot := [.junk, .junk, .k .any, .junk, .junk, .junk, .k .any, .k .any, .k (.int .i64), .junk, .junk, .junk, .junk, .k (.int .i64), .k (.int .i64), .junk, .junk, .k (.int .i64), .k (.int .i64), .junk, .junk, .junk, .junk, .junk, .junk, .junk, .junk, .junk, .junk, .junk, .junk]
abbrev L_impl_made_6_ex : List (Nat × List Slot) := [(2, L_impl_made_6_e2)]
abbrev L_impl_made_6_rt : List Slot := [.junk, .junk, .junk, .junk, .junk, .junk, .junk, .junk, .junk, .junk, .junk, .junk, .junk, .junk, .junk, .junk, .junk, .junk, .junk, .junk, .junk, .junk, .junk, .junk, .junk, .junk, .junk, .junk, .junk, .junk, .junk]

def L_impl_made_6_b (Φ : Post) (u : (Value × Value × Value × Int × Int × Int × Int)) (N : (Value × Value × Value × Int × Int × Int × Int) → Int → World → Prop) (s : Int) (w : World) : Prop :=
  B_impl_made_6 u.1 u.2.1 u.2.2.1 u.2.2.2.1 u.2.2.2.2.1 u.2.2.2.2.2.1 u.2.2.2.2.2.2 s N (fun v w => ∀ j : Nat → Value, Φ (.exit 2) (mkT j 0 L_impl_made_6_e2 v) w) w

theorem L_impl_made_6_eq (j : Nat → Value) (u : (Value × Value × Value × Int × Int × Int × Int)) (s : Int) (N : (Value × Value × Value × Int × Int × Int × Int) → Int → World → Prop) (D2 : (Value × Value × Value × Int × Int × Unit) → World → Prop) (R : (Unit) → World → Prop) (w : World) :
    W Try.prog ty (fun _ _ _ _ => False) (loopAt Try.f105 6) (loopPost L_impl_made_6_sp [(2, (⟨L_impl_made_6_e2, D2⟩ : Door))] ⟨L_impl_made_6_rt, R⟩ (fun v w => N ((fun v => (v.1, v.2.1, v.2.2.1, v.2.2.2.1, v.2.2.2.2.1, v.2.2.2.2.2.1, v.2.2.2.2.2.2.1)) v) ((fun v => v.2.2.2.2.2.2.2.1) v) w)) (mkT j 0 L_impl_made_6_sp ((fun u s => (u.1, u.2.1, u.2.2.1, u.2.2.2.1, u.2.2.2.2.1, u.2.2.2.2.2.1, u.2.2.2.2.2.2, s, ())) u s)) w =
    B_impl_made_6 u.1 u.2.1 u.2.2.1 u.2.2.2.1 u.2.2.2.2.1 u.2.2.2.2.2.1 u.2.2.2.2.2.2 s N D2 w := by
  kernel_rfl

def O_impl_made_1 : Code → Post → List SV → World → Prop :=
  orc 6 (loopAt Try.f105 6) L_impl_made_6_sp (fun Φ fr w => LOOP (U := (Value × Value × Value × Int × Int × Int × Int)) (S := Int) ((fun v => (v.1, v.2.1, v.2.2.1, v.2.2.2.1, v.2.2.2.2.1, v.2.2.2.2.2.1, v.2.2.2.2.2.2.1)) (extT L_impl_made_6_sp fr)) (L_impl_made_6_b Φ ((fun v => (v.1, v.2.1, v.2.2.1, v.2.2.2.1, v.2.2.2.2.1, v.2.2.2.2.2.1, v.2.2.2.2.2.2.1)) (extT L_impl_made_6_sp fr))) ((fun v => v.2.2.2.2.2.2.2.1) (extT L_impl_made_6_sp fr)) w) (fun _ _ _ _ => False)

theorem O_impl_made_1_ok : Sound Try.prog O_impl_made_1 :=
  orc_ok (sound_none _) fun Φ fr w hs h => loop_ok (ty := ty) follows (sound_none _) L_impl_made_6_sp (fun v => (v.1, v.2.1, v.2.2.1, v.2.2.2.1, v.2.2.2.2.1, v.2.2.2.2.2.1, v.2.2.2.2.2.2.1)) (fun v => v.2.2.2.2.2.2.2.1) (fun u s => (u.1, u.2.1, u.2.2.1, u.2.2.2.1, u.2.2.2.2.1, u.2.2.2.2.2.1, u.2.2.2.2.2.2, s, ())) (fun _ => rfl) L_impl_made_6_ex L_impl_made_6_rt (body := L_impl_made_6_b Φ) (fun j u s w N hb => by
    have e := L_impl_made_6_eq j u s N (doorOf Φ (.exit 2) L_impl_made_6_e2).D (doorOf Φ .ret L_impl_made_6_rt).D w
    exact Eq.mpr e hb) hs h

def B_impl_made_3 (of2 : Value) (x6 : Value) (x7 : Value) (x13 : Int) (x14 : Int) (N : (Value × Value × Value × Int) → Int → World → Prop) (D0 : (Value × Value × Unit) → World → Prop) (w : World) : Prop :=
  (((decide (x14 < x13)) = true → (At (loopAt Try.f105 6) (loopAt Try.f105 6) (LOOP (U := (Value × Value × Value × Int × Int × Int × Int)) (S := Int) ((of2 : Value), (x6 : Value), (x7 : Value), x14, x13, x14, x14) (fun N_16 s_17 w_18 => B_impl_made_6 (of2 : Value) (x6 : Value) (x7 : Value) x14 x13 x14 x14 s_17 N_16 (fun (v_13 : (Value × Value × Value × Int × Int × Unit)) w_14 => ∀ _j_15 : Nat → Value, N ((v_13.1 : Value), (v_13.2.1 : Value), (v_13.2.2.1 : Value), v_13.2.2.2.1) (IntKind.i64.wrap (v_13.2.2.2.2.1 + (1 : Int))) w_14) w_18) (0 : Int) w))) ∧ ((decide (x14 < x13)) = false → D0 ((x6 : Value), (x7 : Value), ()) w))

abbrev L_impl_made_3_e0 : List Slot := [.junk, .junk, .junk, .junk, .junk, .junk, .k .any, .k .any, .junk, .junk, .junk, .junk, .junk, .junk, .junk, .junk, .junk, .junk, .junk, .junk, .junk, .junk, .junk, .junk, .junk, .junk, .junk, .junk, .junk, .junk, .junk]

abbrev L_impl_made_3_sp : List Slot := [.junk, .junk, .k .any, .junk, .junk, .junk, .k .any, .k .any, .junk, .junk, .junk, .junk, .junk, .k (.int .i64), .k (.int .i64), .junk, .junk, .junk, .junk, .junk, .junk, .junk, .junk, .junk, .junk, .junk, .junk, .junk, .junk, .junk, .junk]
abbrev L_impl_made_3_ex : List (Nat × List Slot) := [(0, L_impl_made_3_e0)]
abbrev L_impl_made_3_rt : List Slot := [.junk, .junk, .junk, .junk, .junk, .junk, .junk, .junk, .junk, .junk, .junk, .junk, .junk, .junk, .junk, .junk, .junk, .junk, .junk, .junk, .junk, .junk, .junk, .junk, .junk, .junk, .junk, .junk, .junk, .junk, .junk]

def L_impl_made_3_b (Φ : Post) (u : (Value × Value × Value × Int)) (N : (Value × Value × Value × Int) → Int → World → Prop) (s : Int) (w : World) : Prop :=
  B_impl_made_3 u.1 u.2.1 u.2.2.1 u.2.2.2 s N (fun v w => ∀ j : Nat → Value, Φ (.exit 0) (mkT j 0 L_impl_made_3_e0 v) w) w

theorem L_impl_made_3_eq (j : Nat → Value) (u : (Value × Value × Value × Int)) (s : Int) (N : (Value × Value × Value × Int) → Int → World → Prop) (D0 : (Value × Value × Unit) → World → Prop) (R : (Unit) → World → Prop) (w : World) :
    W Try.prog ty O_impl_made_1 (loopAt Try.f105 3) (loopPost L_impl_made_3_sp [(0, (⟨L_impl_made_3_e0, D0⟩ : Door))] ⟨L_impl_made_3_rt, R⟩ (fun v w => N ((fun v => (v.1, v.2.1, v.2.2.1, v.2.2.2.1)) v) ((fun v => v.2.2.2.2.1) v) w)) (mkT j 0 L_impl_made_3_sp ((fun u s => (u.1, u.2.1, u.2.2.1, u.2.2.2, s, ())) u s)) w =
    B_impl_made_3 u.1 u.2.1 u.2.2.1 u.2.2.2 s N D0 w := by
  kernel_rfl

def O_impl_made_2 : Code → Post → List SV → World → Prop :=
  orc 3 (loopAt Try.f105 3) L_impl_made_3_sp (fun Φ fr w => LOOP (U := (Value × Value × Value × Int)) (S := Int) ((fun v => (v.1, v.2.1, v.2.2.1, v.2.2.2.1)) (extT L_impl_made_3_sp fr)) (L_impl_made_3_b Φ ((fun v => (v.1, v.2.1, v.2.2.1, v.2.2.2.1)) (extT L_impl_made_3_sp fr))) ((fun v => v.2.2.2.2.1) (extT L_impl_made_3_sp fr)) w) O_impl_made_1

theorem O_impl_made_2_ok : Sound Try.prog O_impl_made_2 :=
  orc_ok O_impl_made_1_ok fun Φ fr w hs h => loop_ok (ty := ty) follows O_impl_made_1_ok L_impl_made_3_sp (fun v => (v.1, v.2.1, v.2.2.1, v.2.2.2.1)) (fun v => v.2.2.2.2.1) (fun u s => (u.1, u.2.1, u.2.2.1, u.2.2.2, s, ())) (fun _ => rfl) L_impl_made_3_ex L_impl_made_3_rt (body := L_impl_made_3_b Φ) (fun j u s w N hb => by
    have e := L_impl_made_3_eq j u s N (doorOf Φ (.exit 0) L_impl_made_3_e0).D (doorOf Φ .ret L_impl_made_3_rt).D w
    exact Eq.mpr e hb) hs h

def V_impl_made (n0 : Int) (k1 : Int) (of2 : Value) (w : World) (K : Value → World → Prop) : Prop :=
  (Pr Try.prog (Instr.alloc 28 true (.tuple #[])) w (.one .any) fun (x6_2 : Value) w_1 => (Pr Try.prog (Instr.build 28 #[(0, (.int .i64 n0)), (1, (.int .i64 k1))]) w_1 (.one .any) fun (x12_4 : Value) w_3 => (Pr Try.prog (Instr.alloc 28 true (.tuple #[])) w_3 (.one .any) fun (x7_6 : Value) w_5 => (PrU Try.prog (Instr.storeAt 28 x7_6 x12_4) w_5 fun w_7 => (At (loopAt Try.f105 3) (loopAt Try.f105 3) (LOOP (U := (Value × Value × Value × Int)) (S := Int) ((of2 : Value), (x6_2 : Value), (x7_6 : Value), n0) (fun N_26 s_27 w_28 => B_impl_made_3 (of2 : Value) (x6_2 : Value) (x7_6 : Value) n0 s_27 N_26 (fun (v_19 : (Value × Value × Unit)) w_20 => ∀ _j_21 : Nat → Value, (QSub Try.prog (Instr.loadAt 28 v_19.2.1) w_20 .any fun (x30_22 : Value) => (PrU Try.prog (Instr.storeAt 28 v_19.1 x30_22) w_20 fun w_23 => (QSub Try.prog (Instr.loadAt 28 v_19.1) w_23 .any fun (r_25 : Value) => K (r_25 : Value) w_23)))) w_28) (0 : Int) w_7))))))

theorem eq_impl_made (n0 : Int) (k1 : Int) (of2 : Value) (w : World) (K : Value → World → Prop) :
    W Try.prog ty O_impl_made_2 (bodyOf Try.f105) (fnPost Try.prog Try.f105.results.toList (.one .any) K) (frame0 [(.int .i64 n0), (.int .i64 k1), of2] 31) w = V_impl_made n0 k1 of2 w K := by
  kernel_rfl

theorem body_impl_made : Try.f105.body = some (bodyOf Try.f105) := by kernel_rfl
theorem name_impl_made : (Try.f105.name == "runtime.NumGoroutine") = false := by kernel_rfl

theorem walk_impl_made (n0 : Int) (k1 : Int) (of2 : Value) {w : World} {K : Value → World → Prop} (h : V_impl_made n0 k1 of2 w K) : Fc Try.prog 105 #[(.int .i64 n0), (.int .i64 k1), of2] w (.one .any) K :=
  fn_ok follows O_impl_made_2_ok Try.func105 name_impl_made body_impl_made Try.ntmps105 [(.int .i64 n0), (.int .i64 k1), of2] (Eq.mpr (eq_impl_made n0 k1 of2 w K) h)

-- uses S5Made
theorem c_impl_made {n k : Int} (f : Nat → Int) {of : Value} {w : World} {K : Value → World → Prop} (n0 : 0 ≤ n) (n1 : n ≤ 17) (hk : I64 k) (hf : ∀ e, e < (edgesOf n).toNat → 0 ≤ f e ∧ f e < 256)
    (hof : ∀ i j : Int, 0 ≤ i → i < j → j < n → ∀ (w' : World) (K' : Int → World → Prop), Below w.heap.size w w' → (∀ w'', Below w'.heap.size w' w'' → K' (f (enum i j).toNat) w'') → callV Try.prog of #[.int .i64 i, .int .i64 j] w' (.one (.int .i64)) K')
    (hK : ∀ w', Below w.heap.size w w' → K (colF n k f).val w') : Fc Try.prog F_impl_made #[.int .i64 n, .int .i64 k, of] w (.one .any) K := by
  refine walk_impl_made _ _ _ (c_alloc fun p w1 hb1 hv1 => build2 (allocA yC fun b w2 n2 => ?_))
  have e2 := n2.here; have s2 := n2.size; have hs1 := hb1.size
  have hne := hv1.ne (Nat.le_of_eq e2.symm)
  refine stA0 yC n2.at_ (by simp [Col.cells, zC, zA]) (by simp [Col.cells, zC, zA]) (Col.cells_one _) fun w3 m3 s3 h3 => ?_
  have hv3 := (hv1.keep n2.below).mod m3 hne
  have hb3 : Below w.heap.size w w3 := (hb1.trans (n2.below.mono hs1)).trans (m3.below (by omega) (by simp; omega))
  refine lp (fun j w' => 0 ≤ j ∧ j ≤ n ∧ Below w.heap.size w w' ∧ CVar w.heap.size w' p ∧ BlkC w' b ⟨n, k, esF f (edgesOf j).toNat⟩) (fun j _ => (n - j).toNat)
    ⟨by omega, by omega, hb3, hv3, by rw [show (edgesOf 0).toNat = 0 from by decide, esF_0]; exact h3⟩ ?_
  rintro j w4 N ⟨j0, j1, hb4, hv4, h4⟩ hN
  unfold B_impl_made_3
  refine ⟨fun hlt => ?_, fun hge => ?_⟩
  · have hlt := dec_t hlt
    have ej := edges_bd j0 (by omega)
    refine lp (fun i w' => 0 ≤ i ∧ i ≤ j ∧ Below w.heap.size w w' ∧ CVar w.heap.size w' p ∧ BlkC w' b ⟨n, k, esF f (edgesOf j + i).toNat⟩) (fun i _ => (j - i).toNat)
      ⟨by omega, by omega, hb4, hv4, by rw [Int.add_zero]; exact h4⟩ ?_
    rintro i w5 N' ⟨i0, i1, hb5, hv5, h5⟩ hN'
    unfold B_impl_made_6
    refine ⟨fun hlt2 => ?_, fun hge2 => ?_⟩
    · have hlt2 := dec_t hlt2
      have hen := enum_lt i0 hlt2 hlt n1
      have hen2 := edges_bd n0 n1
      have hff := hf (enum i j).toNat (by omega)
      refine hof i j i0 hlt2 hlt w5 _ hb5 fun w6 hb6 => ?_
      have h6 : BlkC w6 b ⟨n, k, esF f (edgesOf j + i).toNat⟩ := below_at hb6 h5 (at_lt h5)
      refine c_impl_Colouring_put h6 (esF_len _ _) i0 (by omega) j0 (by omega) (by omega) hff.1 hff.2 fun w7 m7 h7 => ?_
      rw [wrap_small (by omega) (by omega)]
      have hs5 := hb5.size; have hs6 := hb6.size; have hlb := at_lt h5
      refine hN' _ _ ⟨by omega, by omega, (hb5.trans (hb6.mono hs5)).trans (m7.below (by omega) (by simp; omega)), (hv5.keep hb6).mod m7 hne, ?_⟩ (by omega)
      rw [num_of hlt2] at h7
      have he : (enum i j).toNat = (edgesOf j + i).toNat := rfl
      rw [he, esF_set f (by rw [← he]; omega)] at h7
      rwa [show (edgesOf j + (i + 1)).toNat = (edgesOf j + i).toNat + 1 from by omega]
    · have hge2 := dec_f hge2
      have : i = j := by omega
      subst this
      intro _
      show N _ (IntKind.i64.wrap (i + 1)) w5
      rw [wrap_small (by omega) (by omega)]
      refine hN _ _ ⟨by omega, by omega, hb5, hv5, ?_⟩ (by omega)
      rw [edgesOf_succ]; exact h5
  · have hge := dec_f hge
    have : j = n := by omega
    subst this
    intro _
    have hok : (colF j k f).Ok := colF_ok ⟨by omega, by omega⟩ hk hf
    have hs4 := hb4.size
    refine col_all hok (blk_row h4) (c_ret hok hv4 hs4 fun w5 hb5 => hK w5 (hb4.trans hb5))

end Go.Proofs.Ytdkodhonaoecnaa
