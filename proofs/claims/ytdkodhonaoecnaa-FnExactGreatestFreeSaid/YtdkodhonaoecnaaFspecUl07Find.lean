/- The reading of spec_l07Find, and its contract. No condition. -/
import Derived.Test.YtdkodhonaoecnaaTy
import Derived.Test.YtdkodhonaoecnaaS8Find
import Derived.Test.YtdkodhonaoecnaaFspecUl01Own
import Derived.Test.YtdkodhonaoecnaaFspecUl07Next
namespace Go.Proofs.Ytdkodhonaoecnaa
open Go Go.RowKit Eng Mem
set_option linter.unusedVariables false
set_option maxRecDepth 100000
def B_spec_l07Find_5 (n0 : Int) (k1 : Int) (part2 : Value) (kind3 : Int) (next10 : Value) (i11 : Int) (N : (Int × Int × Value × Int × Value) → Int → World → Prop) (D0 : (Unit) → World → Prop) (R : (Value × Bool × Unit) → World → Prop) (w : World) : Prop :=
  (QAll Try.prog (Builtin.len_ #[25] 3 #[next10]) (.int .i64) fun (x25_4 : Int) => (((decide (i11 < x25_4)) = true → (∀ w_5, Drew w w_5 → (QAll Try.prog (Instr.indexAt 25 next10 (.int .i64 i11)) .any fun (x36_6 : Value) => (QSub Try.prog (Instr.loadAt 2 x36_6) w_5 (.int .i64) fun (x37_7 : Int) => ((Fc Try.prog 98 #[part2] w_5 (.one .any) fun (x33_9 : Value) w_8 => (Keeps w_5 w_8 ((Pr Try.prog (Instr.buildSlice 25 1 #[(0, (.int .i64 x37_7))]) w_8 (.one .any) fun (x38_11 : Value) w_10 => (Pr Try.prog (Builtin.append_ #[25, 25] 25 #[x33_9, x38_11]) w_10 (.one .any) fun (x39_13 : Value) w_12 => (Fc Try.prog 59 #[(.int .i64 n0), (.int .i64 k1), x39_13, (.int .i64 kind3)] w_12 (.two .any .bool) fun (x41_15 : Value × Bool) w_14 => ((x41_15.2 = true → R ((x41_15.1 : Value), true, ()) w_14) ∧ (x41_15.2 = false → N (n0, k1, (part2 : Value), kind3, (next10 : Value)) (IntKind.i64.wrap (i11 + (1 : Int))) w_14)))))))) ∧ (Pr Try.prog (Instr.buildSlice 25 1 #[(0, (.int .i64 x37_7))]) w_5 (.one .any) fun (x38_17 : Value) w_16 => (Fc Try.prog 98 #[part2] w_16 (.one .any) fun (x33_19 : Value) w_18 => (Pr Try.prog (Builtin.append_ #[25, 25] 25 #[x33_19, x38_17]) w_18 (.one .any) fun (x39_21 : Value) w_20 => (Fc Try.prog 59 #[(.int .i64 n0), (.int .i64 k1), x39_21, (.int .i64 kind3)] w_20 (.two .any .bool) fun (x41_23 : Value × Bool) w_22 => ((x41_23.2 = true → R ((x41_23.1 : Value), true, ()) w_22) ∧ (x41_23.2 = false → N (n0, k1, (part2 : Value), kind3, (next10 : Value)) (IntKind.i64.wrap (i11 + (1 : Int))) w_22))))))))))) ∧ ((decide (i11 < x25_4)) = false → D0 () w)))

abbrev L_spec_l07Find_5_e0 : List Slot := [.junk, .junk, .junk, .junk, .junk, .junk, .junk, .junk, .junk, .junk, .junk, .junk, .junk, .junk, .junk, .junk, .junk, .junk, .junk, .junk, .junk, .junk, .junk, .junk, .junk, .junk, .junk, .junk, .junk, .junk, .junk, .junk, .junk, .junk, .junk, .junk, .junk, .junk, .junk, .junk, .junk, .junk, .junk, .junk, .junk, .junk]

abbrev L_spec_l07Find_5_sp : List Slot := [.k (.int .i64), .k (.int .i64), .k .any, .k (.int .i64), .junk, .junk, .junk, .junk, .junk, .junk, .k .any, .k (.int .i64), .junk, .junk, .junk, .junk, .junk, .junk, .junk, .junk, .junk, .junk, .junk, .junk, .junk, .junk, .junk, .junk, .junk, .junk, .junk, .junk, .junk, .junk, .junk, .junk, .junk, .junk, .junk, .junk, .junk, .junk, .junk, .junk, .junk, .junk]
abbrev L_spec_l07Find_5_ex : List (Nat × List Slot) := [(0, L_spec_l07Find_5_e0)]
abbrev L_spec_l07Find_5_rt : List Slot := [.junk, .junk, .junk, .junk, .junk, .junk, .junk, .junk, .k .any, .k .bool, .junk, .junk, .junk, .junk, .junk, .junk, .junk, .junk, .junk, .junk, .junk, .junk, .junk, .junk, .junk, .junk, .junk, .junk, .junk, .junk, .junk, .junk, .junk, .junk, .junk, .junk, .junk, .junk, .junk, .junk, .junk, .junk, .junk, .junk, .junk, .junk]

def L_spec_l07Find_5_b (Φ : Post) (u : (Int × Int × Value × Int × Value)) (N : (Int × Int × Value × Int × Value) → Int → World → Prop) (s : Int) (w : World) : Prop :=
  B_spec_l07Find_5 u.1 u.2.1 u.2.2.1 u.2.2.2.1 u.2.2.2.2 s N (fun v w => ∀ j : Nat → Value, Φ (.exit 0) (mkT j 0 L_spec_l07Find_5_e0 v) w) (fun v w => ∀ j : Nat → Value, Φ .ret (mkT j 0 L_spec_l07Find_5_rt v) w) w

theorem L_spec_l07Find_5_eq (j : Nat → Value) (u : (Int × Int × Value × Int × Value)) (s : Int) (N : (Int × Int × Value × Int × Value) → Int → World → Prop) (D0 : (Unit) → World → Prop) (R : (Value × Bool × Unit) → World → Prop) (w : World) :
    W Try.prog ty (fun _ _ _ _ => False) (loopAt Try.f59 5) (loopPost L_spec_l07Find_5_sp [(0, (⟨L_spec_l07Find_5_e0, D0⟩ : Door))] ⟨L_spec_l07Find_5_rt, R⟩ (fun v w => N ((fun v => (v.1, v.2.1, v.2.2.1, v.2.2.2.1, v.2.2.2.2.1)) v) ((fun v => v.2.2.2.2.2.1) v) w)) (mkT j 0 L_spec_l07Find_5_sp ((fun u s => (u.1, u.2.1, u.2.2.1, u.2.2.2.1, u.2.2.2.2, s, ())) u s)) w =
    B_spec_l07Find_5 u.1 u.2.1 u.2.2.1 u.2.2.2.1 u.2.2.2.2 s N D0 R w := by
  kernel_rfl

def O_spec_l07Find_1 : Code → Post → List SV → World → Prop :=
  orc 5 (loopAt Try.f59 5) L_spec_l07Find_5_sp (fun Φ fr w => LOOP (U := (Int × Int × Value × Int × Value)) (S := Int) ((fun v => (v.1, v.2.1, v.2.2.1, v.2.2.2.1, v.2.2.2.2.1)) (extT L_spec_l07Find_5_sp fr)) (L_spec_l07Find_5_b Φ ((fun v => (v.1, v.2.1, v.2.2.1, v.2.2.2.1, v.2.2.2.2.1)) (extT L_spec_l07Find_5_sp fr))) ((fun v => v.2.2.2.2.2.1) (extT L_spec_l07Find_5_sp fr)) w) (fun _ _ _ _ => False)

theorem O_spec_l07Find_1_ok : Sound Try.prog O_spec_l07Find_1 :=
  orc_ok (sound_none _) fun Φ fr w hs h => loop_ok (ty := ty) follows (sound_none _) L_spec_l07Find_5_sp (fun v => (v.1, v.2.1, v.2.2.1, v.2.2.2.1, v.2.2.2.2.1)) (fun v => v.2.2.2.2.2.1) (fun u s => (u.1, u.2.1, u.2.2.1, u.2.2.2.1, u.2.2.2.2, s, ())) (fun _ => rfl) L_spec_l07Find_5_ex L_spec_l07Find_5_rt (body := L_spec_l07Find_5_b Φ) (fun j u s w N hb => by
    have e := L_spec_l07Find_5_eq j u s N (doorOf Φ (.exit 0) L_spec_l07Find_5_e0).D (doorOf Φ .ret L_spec_l07Find_5_rt).D w
    exact Eq.mpr e hb) hs h

def V_spec_l07Find (n0 : Int) (k1 : Int) (part2 : Value) (kind3 : Int) (w : World) (K : (Value × Bool) → World → Prop) : Prop :=
  (QAll Try.prog (Builtin.len_ #[25] 3 #[part2]) (.int .i64) fun (x15_1 : Int) => (((x15_1 == n0) = true → K ((part2 : Value), true) w) ∧ ((x15_1 == n0) = false → (Fc Try.prog 108 #[(.int .i64 k1), part2, (.int .i64 kind3)] w (.one .any) fun (x22_3 : Value) w_2 => (At (loopAt Try.f59 5) (loopAt Try.f59 5) (LOOP (U := (Int × Int × Value × Int × Value)) (S := Int) (n0, k1, (part2 : Value), kind3, (x22_3 : Value)) (fun N_30 s_31 w_32 => B_spec_l07Find_5 n0 k1 (part2 : Value) kind3 (x22_3 : Value) s_31 N_30 (fun (v_24 : (Unit)) w_25 => ∀ _j_26 : Nat → Value, K (((.slice none 0 0) : Value), false) w_25) (fun (v_27 : (Value × Bool × Unit)) w_28 => ∀ _j_29 : Nat → Value, K ((v_27.1 : Value), v_27.2.1) w_28) w_32) (0 : Int) w_2))))))

theorem eq_spec_l07Find (n0 : Int) (k1 : Int) (part2 : Value) (kind3 : Int) (w : World) (K : (Value × Bool) → World → Prop) :
    W Try.prog ty O_spec_l07Find_1 (bodyOf Try.f59) (fnPost Try.prog Try.f59.results.toList (.two .any .bool) K) (frame0 [(.int .i64 n0), (.int .i64 k1), part2, (.int .i64 kind3)] 46) w = V_spec_l07Find n0 k1 part2 kind3 w K := by
  kernel_rfl

theorem body_spec_l07Find : Try.f59.body = some (bodyOf Try.f59) := by kernel_rfl
theorem name_spec_l07Find : (Try.f59.name == "runtime.NumGoroutine") = false := by kernel_rfl

theorem walk_spec_l07Find (n0 : Int) (k1 : Int) (part2 : Value) (kind3 : Int) {w : World} {K : (Value × Bool) → World → Prop} (h : V_spec_l07Find n0 k1 part2 kind3 w K) : Fc Try.prog 59 #[(.int .i64 n0), (.int .i64 k1), part2, (.int .i64 kind3)] w (.two .any .bool) K :=
  fn_ok follows O_spec_l07Find_1_ok Try.func59 name_spec_l07Find body_spec_l07Find Try.ntmps59 [(.int .i64 n0), (.int .i64 k1), part2, (.int .i64 kind3)] (Eq.mpr (eq_spec_l07Find n0 k1 part2 kind3 w K) h)

-- uses S8Find
theorem c_spec_l07Find {k kind : Int} {n : Nat} (B : Nat) (hk : 0 ≤ k ∧ k ≤ 3) (hn : n ≤ 40) :
    ∀ (fuel : Nat) (l : List Int) (part : Value) (w : World) (K : Value × Bool → World → Prop), l.length + fuel = n → B ≤ w.heap.size → MyI B w.heap.size w part l →
      (∀ w' v p, Below w.heap.size w w' → findF k kind n fuel l = some p → MyI B w'.heap.size w' v p → K (v, true) w') → (∀ w', Below w.heap.size w w' → findF k kind n fuel l = none → K (.slice none 0 0, false) w') →
      Fc Try.prog F_spec_l07Find #[.int .i64 n, .int .i64 k, part, .int .i64 kind] w (.two .any .bool) K
  | fuel, l, part, w, K, hlen, hB, hm, hK, hK0 => by
    have hs := hm.sl
    refine walk_spec_l07Find _ _ _ _ (lenI hs ⟨fun he => ?_, fun hne => ?_⟩)
    · have he := eq_t he
      exact hK w part l (Below.refl _ _) (by unfold findF; rw [if_pos (by omega)]) hm
    have hne := eq_f hne
    match fuel, hlen, hK, hK0 with
    | 0, hlen, _, _ => omega
    | fuel + 1, hlen, hK, hK0 =>
      obtain ⟨cs, hcs⟩ : ∃ cs, nextL l kind k.toNat = cs := ⟨_, rfl⟩
      have hc : findF k kind n (fuel + 1) l = (cs.map fun c => l ++ [c]).findSome? (findF k kind n fuel) := by rw [findF, if_neg (by omega), hcs]
      rw [hc] at hK hK0
      have hnl := nextL_len l kind k.toNat
      rw [hcs] at hnl
      refine c_spec_l07Next hs (by omega) hk.1 hk.2 fun w1 v b hb hbel ho => ?_
      rw [hcs] at ho
      have hs1 := hbel.size
      refine lp (fun i w' => 0 ≤ i ∧ i ≤ cs.length ∧ Below w1.heap.size w1 w' ∧ (cs.map fun c => l ++ [c]).findSome? (findF k kind n fuel) = ((cs.drop i.toNat).map fun c => l ++ [c]).findSome? (findF k kind n fuel)) (fun i _ => (cs.length - i).toNat) ⟨by omega, by omega, Below.refl _ _, by simp⟩ ?_
      rintro i w2 N ⟨i0, i1, hb2, hrest⟩ hN
      unfold B_spec_l07Find_5
      refine lenI (own_slI (ho.keep hb2) (by omega)) ⟨fun hlt w3 hd => ?_, fun hge => ?_⟩
      · have hlt := dec_t hlt
        have hb3 := hb2.trans (hd.below w1.heap.size)
        have hz3 := hb3.size
        have q3 := hbel.trans (hb3.mono hs1)
        have hs3 := hs.keep q3
        have hi : i.toNat < cs.length := by omega
        refine atI (own_slI (ho.keep hb3) (by omega)) i0 hlt ?_
        obtain ⟨x, hx⟩ : ∃ x, cs.getD i.toNat 0 = x := ⟨_, rfl⟩
        have hdrop : cs.drop i.toNat = x :: cs.drop (i.toNat + 1) := by
          rw [List.drop_eq_getElem_cons hi, ← hx]
          simp [List.getD, hi]
        rw [hdrop, List.map_cons, List.findSome?_cons] at hrest
        rw [hx]
        have hL : (l ++ [x]).length = l.length + 1 := by simp
        have fin : ∀ (y : Value) (w6 : World), Below w3.heap.size w3 w6 → MyI B w6.heap.size w6 y (l ++ [x]) → Fc Try.prog F_spec_l07Find #[.int .i64 n, .int .i64 k, y, .int .i64 kind] w6 (.two .any .bool) fun x41 w14 => (x41.2 = true → ∀ _j : Nat → Value, K (x41.1, x41.2) w14) ∧ (x41.2 = false → N (n, k, part, kind, v) (IntKind.i64.wrap (i + 1)) w14) := fun y w6 hb6 hy => by
          have hz6 := hb6.size
          refine c_spec_l07Find B hk hn fuel (l ++ [x]) y w6 _ (by rw [hL]; omega) (by omega) hy (fun w7 v' p hb7 hf hp => ⟨fun _ _ => ?_, fun h => Bool.noConfusion h⟩) fun w7 hb7 hf => ⟨fun h => Bool.noConfusion h, fun _ => ?_⟩
          · rw [hf] at hrest
            exact hK w7 v' p (q3.trans ((hb6.trans (hb7.mono hz6)).mono q3.size)) hrest hp
          · rw [hf] at hrest
            rw [wrap_small (by omega) (by omega)]
            exact hN _ _ ⟨by omega, by omega, hb3.trans ((hb6.trans (hb7.mono hz6)).mono hz3), by rw [hrest, show (i + 1).toNat = i.toNat + 1 from by omega]⟩ (by omega)
        refine ⟨c_spec_l01Own hs3 (by omega) fun w4 y b4 hb4 q4 o4 => ⟨q4, ?_⟩, ?_⟩
        · have hz4 := q4.size
          refine appI o4 (by omega) fun y' w5 b5 o5 m5 hb5 => ?_
          have q5 : Below w3.heap.size w3 w5 := q4.trans (m5.below (by omega) (by simp; omega))
          exact (fin y' w5 q5 (own_my o5 (by rw [hL]; omega) (by omega) o5.lt)).mono fun x w h => ⟨fun hx j => by have := h.1 hx j; rw [hx] at this; exact this, h.2⟩
        · refine mk1 ySI rfl fun b4 w4 n4 o4 => c_spec_l01Own (hs3.keep n4.below) (by omega) fun w5 y b5 hb5 q5 o5 => ?_
          have hz4 := n4.below.size; have hz5 := q5.size
          refine app ySI 1 o5 (o4.keep q5).sl (by simp) (iv_one [x]) (by omega) fun y' w6 b6 o6 m6 hb6 => ?_
          have q6 : Below w3.heap.size w3 w6 := (n4.below.trans (q5.mono hz4)).trans (m6.below (by omega) (by simp; omega))
          have o6' : OwnI w6 b6 y' (l ++ [x]) := by
            unfold OwnI
            rw [hL, iv, List.map_append]
            exact o6
          exact (fin y' w6 q6 (own_my o6' (by rw [hL]; omega) (by omega) o6'.lt)).mono fun x w h => ⟨fun hx j => by have := h.1 hx j; rw [hx] at this; exact this, h.2⟩
      · have hge := dec_f hge
        have : i = cs.length := by omega
        subst this
        intro _
        rw [show ((cs.length : Int)).toNat = cs.length from by omega, List.drop_length] at hrest
        exact hK0 w2 (hbel.trans (hb2.mono hs1)) hrest

end Go.Proofs.Ytdkodhonaoecnaa
