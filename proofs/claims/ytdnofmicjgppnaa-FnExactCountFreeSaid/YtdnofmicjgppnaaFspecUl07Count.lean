/- The reading of spec_l07Count, and its contract. No condition. -/
import Derived.Test.YtdnofmicjgppnaaTy
import Derived.Test.YtdnofmicjgppnaaS8CF
import Derived.Test.YtdnofmicjgppnaaFspecUl01Own
import Derived.Test.YtdnofmicjgppnaaFspecUl07Next
namespace Go.Proofs.Ytdnofmicjgppnaa
open Go Go.RowKit Eng Mem
set_option linter.unusedVariables false
set_option maxRecDepth 100000
def B_spec_l07Count_5 (n0 : Int) (k1 : Int) (part2 : Value) (kind3 : Int) (next9 : Value) (count10 : Int) (i11 : Int) (N : (Int × Int × Value × Int × Value) → (Int × Int) → World → Prop) (D0 : (Int × Unit) → World → Prop) (w : World) : Prop :=
  (QAll Try.prog (Builtin.len_ #[22] 3 #[next9]) (.int .i64) fun (x22_4 : Int) => (((decide (i11 < x22_4)) = true → (∀ w_5, Drew w w_5 → (QAll Try.prog (Instr.indexAt 22 next9 (.int .i64 i11)) .any fun (x33_6 : Value) => (QSub Try.prog (Instr.loadAt 2 x33_6) w_5 (.int .i64) fun (x34_7 : Int) => ((Fc Try.prog 96 #[part2] w_5 (.one .any) fun (x30_9 : Value) w_8 => (Keeps w_5 w_8 ((Pr Try.prog (Instr.buildSlice 22 1 #[(0, (.int .i64 x34_7))]) w_8 (.one .any) fun (x35_11 : Value) w_10 => (Pr Try.prog (Builtin.append_ #[22, 22] 22 #[x30_9, x35_11]) w_10 (.one .any) fun (x36_13 : Value) w_12 => (Fc Try.prog 76 #[(.int .i64 n0), (.int .i64 k1), x36_13, (.int .i64 kind3)] w_12 (.one (.int .i64)) fun (x38_15 : Int) w_14 => N (n0, k1, (part2 : Value), kind3, (next9 : Value)) ((IntKind.i64.wrap (count10 + x38_15)), (IntKind.i64.wrap (i11 + (1 : Int)))) w_14)))))) ∧ (Pr Try.prog (Instr.buildSlice 22 1 #[(0, (.int .i64 x34_7))]) w_5 (.one .any) fun (x35_17 : Value) w_16 => (Fc Try.prog 96 #[part2] w_16 (.one .any) fun (x30_19 : Value) w_18 => (Pr Try.prog (Builtin.append_ #[22, 22] 22 #[x30_19, x35_17]) w_18 (.one .any) fun (x36_21 : Value) w_20 => (Fc Try.prog 76 #[(.int .i64 n0), (.int .i64 k1), x36_21, (.int .i64 kind3)] w_20 (.one (.int .i64)) fun (x38_23 : Int) w_22 => N (n0, k1, (part2 : Value), kind3, (next9 : Value)) ((IntKind.i64.wrap (count10 + x38_23)), (IntKind.i64.wrap (i11 + (1 : Int)))) w_22))))))))) ∧ ((decide (i11 < x22_4)) = false → D0 (count10, ()) w)))

abbrev L_spec_l07Count_5_e0 : List Slot := [.junk, .junk, .junk, .junk, .junk, .junk, .junk, .junk, .junk, .junk, .k (.int .i64), .junk, .junk, .junk, .junk, .junk, .junk, .junk, .junk, .junk, .junk, .junk, .junk, .junk, .junk, .junk, .junk, .junk, .junk, .junk, .junk, .junk, .junk, .junk, .junk, .junk, .junk, .junk, .junk, .junk, .junk]

abbrev L_spec_l07Count_5_sp : List Slot := [.k (.int .i64), .k (.int .i64), .k .any, .k (.int .i64), .junk, .junk, .junk, .junk, .junk, .k .any, .k (.int .i64), .k (.int .i64), .junk, .junk, .junk, .junk, .junk, .junk, .junk, .junk, .junk, .junk, .junk, .junk, .junk, .junk, .junk, .junk, .junk, .junk, .junk, .junk, .junk, .junk, .junk, .junk, .junk, .junk, .junk, .junk, .junk]
abbrev L_spec_l07Count_5_ex : List (Nat × List Slot) := [(0, L_spec_l07Count_5_e0)]
abbrev L_spec_l07Count_5_rt : List Slot := [.junk, .junk, .junk, .junk, .junk, .junk, .junk, .junk, .junk, .junk, .junk, .junk, .junk, .junk, .junk, .junk, .junk, .junk, .junk, .junk, .junk, .junk, .junk, .junk, .junk, .junk, .junk, .junk, .junk, .junk, .junk, .junk, .junk, .junk, .junk, .junk, .junk, .junk, .junk, .junk, .junk]

def L_spec_l07Count_5_b (Φ : Post) (u : (Int × Int × Value × Int × Value)) (N : (Int × Int × Value × Int × Value) → (Int × Int) → World → Prop) (s : (Int × Int)) (w : World) : Prop :=
  B_spec_l07Count_5 u.1 u.2.1 u.2.2.1 u.2.2.2.1 u.2.2.2.2 s.1 s.2 N (fun v w => ∀ j : Nat → Value, Φ (.exit 0) (mkT j 0 L_spec_l07Count_5_e0 v) w) w

theorem L_spec_l07Count_5_eq (j : Nat → Value) (u : (Int × Int × Value × Int × Value)) (s : (Int × Int)) (N : (Int × Int × Value × Int × Value) → (Int × Int) → World → Prop) (D0 : (Int × Unit) → World → Prop) (R : (Unit) → World → Prop) (w : World) :
    W Try.prog ty (fun _ _ _ _ => False) (loopAt Try.f76 5) (loopPost L_spec_l07Count_5_sp [(0, (⟨L_spec_l07Count_5_e0, D0⟩ : Door))] ⟨L_spec_l07Count_5_rt, R⟩ (fun v w => N ((fun v => (v.1, v.2.1, v.2.2.1, v.2.2.2.1, v.2.2.2.2.1)) v) ((fun v => (v.2.2.2.2.2.1, v.2.2.2.2.2.2.1)) v) w)) (mkT j 0 L_spec_l07Count_5_sp ((fun u s => (u.1, u.2.1, u.2.2.1, u.2.2.2.1, u.2.2.2.2, s.1, s.2, ())) u s)) w =
    B_spec_l07Count_5 u.1 u.2.1 u.2.2.1 u.2.2.2.1 u.2.2.2.2 s.1 s.2 N D0 w := by
  kernel_rfl

def O_spec_l07Count_1 : Code → Post → List SV → World → Prop :=
  orc 5 (loopAt Try.f76 5) L_spec_l07Count_5_sp (fun Φ fr w => LOOP (U := (Int × Int × Value × Int × Value)) (S := (Int × Int)) ((fun v => (v.1, v.2.1, v.2.2.1, v.2.2.2.1, v.2.2.2.2.1)) (extT L_spec_l07Count_5_sp fr)) (L_spec_l07Count_5_b Φ ((fun v => (v.1, v.2.1, v.2.2.1, v.2.2.2.1, v.2.2.2.2.1)) (extT L_spec_l07Count_5_sp fr))) ((fun v => (v.2.2.2.2.2.1, v.2.2.2.2.2.2.1)) (extT L_spec_l07Count_5_sp fr)) w) (fun _ _ _ _ => False)

theorem O_spec_l07Count_1_ok : Sound Try.prog O_spec_l07Count_1 :=
  orc_ok (sound_none _) fun Φ fr w hs h => loop_ok (ty := ty) follows (sound_none _) L_spec_l07Count_5_sp (fun v => (v.1, v.2.1, v.2.2.1, v.2.2.2.1, v.2.2.2.2.1)) (fun v => (v.2.2.2.2.2.1, v.2.2.2.2.2.2.1)) (fun u s => (u.1, u.2.1, u.2.2.1, u.2.2.2.1, u.2.2.2.2, s.1, s.2, ())) (fun _ => rfl) L_spec_l07Count_5_ex L_spec_l07Count_5_rt (body := L_spec_l07Count_5_b Φ) (fun j u s w N hb => by
    have e := L_spec_l07Count_5_eq j u s N (doorOf Φ (.exit 0) L_spec_l07Count_5_e0).D (doorOf Φ .ret L_spec_l07Count_5_rt).D w
    exact Eq.mpr e hb) hs h

def V_spec_l07Count (n0 : Int) (k1 : Int) (part2 : Value) (kind3 : Int) (w : World) (K : Int → World → Prop) : Prop :=
  (QAll Try.prog (Builtin.len_ #[22] 3 #[part2]) (.int .i64) fun (x13_1 : Int) => (((x13_1 == n0) = true → K (1 : Int) w) ∧ ((x13_1 == n0) = false → (Fc Try.prog 95 #[(.int .i64 k1), part2, (.int .i64 kind3)] w (.one .any) fun (x19_3 : Value) w_2 => (At (loopAt Try.f76 5) (loopAt Try.f76 5) (LOOP (U := (Int × Int × Value × Int × Value)) (S := (Int × Int)) (n0, k1, (part2 : Value), kind3, (x19_3 : Value)) (fun N_27 s_28 w_29 => B_spec_l07Count_5 n0 k1 (part2 : Value) kind3 (x19_3 : Value) s_28.1 s_28.2 N_27 (fun (v_24 : (Int × Unit)) w_25 => ∀ _j_26 : Nat → Value, K v_24.1 w_25) w_29) ((0 : Int), (0 : Int)) w_2))))))

theorem eq_spec_l07Count (n0 : Int) (k1 : Int) (part2 : Value) (kind3 : Int) (w : World) (K : Int → World → Prop) :
    W Try.prog ty O_spec_l07Count_1 (bodyOf Try.f76) (fnPost Try.prog Try.f76.results.toList (.one (.int .i64)) K) (frame0 [(.int .i64 n0), (.int .i64 k1), part2, (.int .i64 kind3)] 41) w = V_spec_l07Count n0 k1 part2 kind3 w K := by
  kernel_rfl

theorem body_spec_l07Count : Try.f76.body = some (bodyOf Try.f76) := by kernel_rfl
theorem name_spec_l07Count : (Try.f76.name == "runtime.NumGoroutine") = false := by kernel_rfl

theorem walk_spec_l07Count (n0 : Int) (k1 : Int) (part2 : Value) (kind3 : Int) {w : World} {K : Int → World → Prop} (h : V_spec_l07Count n0 k1 part2 kind3 w K) : Fc Try.prog 76 #[(.int .i64 n0), (.int .i64 k1), part2, (.int .i64 kind3)] w (.one (.int .i64)) K :=
  fn_ok follows O_spec_l07Count_1_ok Try.func76 name_spec_l07Count body_spec_l07Count Try.ntmps76 [(.int .i64 n0), (.int .i64 k1), part2, (.int .i64 kind3)] (Eq.mpr (eq_spec_l07Count n0 k1 part2 kind3 w K) h)

-- uses S8CF
theorem c_spec_l07Count {k kind : Int} {n : Nat} (hk : 0 ≤ k ∧ k ≤ 3) (hn : n ≤ 12) :
    ∀ (fuel : Nat) (l : List Int) (part : Value) (w : World) (K : Int → World → Prop), l.length + fuel = n → SlI w part l → (∀ w', Below w.heap.size w w' → K (cntFree k kind n fuel l : Nat) w') →
      Fc Try.prog F_spec_l07Count #[.int .i64 n, .int .i64 k, part, .int .i64 kind] w (.one (.int .i64)) K
  | fuel, l, part, w, K, hlen, hs, hK => by
    refine walk_spec_l07Count _ _ _ _ (lenI hs ⟨fun he => ?_, fun hne => ?_⟩)
    · have he := eq_t he
      have := hK w (Below.refl _ _)
      unfold cntFree at this
      rw [if_pos (by omega)] at this
      exact this
    have hne := eq_f hne
    match fuel, hlen, hK with
    | 0, hlen, _ => omega
    | fuel + 1, hlen, hK =>
      have hc : cntFree k kind n (fuel + 1) l = ((nextL l kind k.toNat).map fun c => cntFree k kind n fuel (l ++ [c])).sum := by rw [cntFree, if_neg (by omega)]
      rw [hc] at hK
      have hnl := nextL_len l kind k.toNat
      refine c_spec_l07Next hs (by omega) hk.1 hk.2 fun w1 v b hb hbel ho => ?_
      obtain ⟨cs, hcs⟩ : ∃ cs, (nextL l kind k.toNat).map (fun c => cntFree k kind n fuel (l ++ [c])) = cs := ⟨_, rfl⟩
      rw [hcs] at hK
      have hcl : cs.length = (nextL l kind k.toNat).length := by rw [← hcs, List.length_map]
      have hcb : ∀ x ∈ cs, x ≤ 531441 := fun x hx => by
        rw [← hcs] at hx
        obtain ⟨c, _, rfl⟩ := List.mem_map.1 hx
        exact Nat.le_trans (cntFree_le k kind hk.2 n fuel _) (pow3_12 (by omega))
      have hsb : ∀ i, i ≤ cs.length → (cs.take i).sum ≤ i * 531441 := fun i => by
        induction i with
        | zero => intro _; simp
        | succ i ih =>
          intro h
          rw [sum_take_succ cs i (by omega)]
          have := ih (by omega)
          have := hcb _ (List.getElem_mem (show i < cs.length by omega))
          omega
      have hs1 := hs.keep hbel
      refine lp (fun s w' => 0 ≤ s.2 ∧ s.2 ≤ cs.length ∧ Below w1.heap.size w1 w' ∧ s.1 = ((cs.take s.2.toNat).sum : Nat)) (fun s _ => (cs.length - s.2).toNat) ⟨by simp, by simp, Below.refl _ _, by simp⟩ ?_
      rintro ⟨cnt, i⟩ w2 N ⟨i0, i1, hb2, hcnt⟩ hN
      simp only at i0 i1 hcnt
      subst hcnt
      unfold B_spec_l07Count_5
      have hv2 := ho.keep hb2
      refine lenI (own_slI hv2 (by omega)) ⟨fun hlt w3 hd => ?_, fun hge => ?_⟩
      · have hlt := dec_t hlt
        simp only at hlt
        have hb3 := hb2.trans (hd.below w1.heap.size)
        have hs3 := hs1.keep hb3
        have hz3 := hb3.size
        have hi : i.toNat < cs.length := by omega
        refine atI (own_slI (ho.keep hb3) (by omega)) i0 (by simpa using hlt) ?_
        dsimp only
        obtain ⟨x, hx⟩ : ∃ x, (nextL l kind k.toNat).getD i.toNat 0 = x := ⟨_, rfl⟩
        have hcx : cs[i.toNat] = cntFree k kind n fuel (l ++ [x]) := by
          rw [← hx]
          simp only [← hcs, List.getElem_map, List.getD, List.getElem?_eq_getElem (show i.toNat < (nextL l kind k.toNat).length by omega), Option.getD_some]
        rw [hx]
        have hL : (l ++ [x]).length = l.length + 1 := by simp
        have hsum := sum_take_succ cs i.toNat hi
        have hsbi := hsb i.toNat (by omega)
        have hcbi := hcb _ (List.getElem_mem hi)
        have fin : ∀ w', Below w3.heap.size w3 w' → N (n, k, part, kind, v) (IntKind.i64.wrap (((cs.take i.toNat).sum : Nat) + (cntFree k kind n fuel (l ++ [x]) : Nat)), IntKind.i64.wrap (i + 1)) w' := fun w' hb' => by
          rw [← hcx, wrap_small (by omega) (by omega), wrap_small (by omega) (by omega)]
          refine hN _ _ ⟨by simp; omega, by simp; omega, hb3.trans (hb'.mono hz3), ?_⟩ (by simp; omega)
          simp only
          rw [show (i + 1).toNat = i.toNat + 1 from by omega, hsum]
          omega
        refine ⟨c_spec_l01Own hs3 (by omega) fun w4 y b4 hb4 q4 o4 => ⟨q4, ?_⟩, ?_⟩
        · have hz4 := q4.size
          refine appI o4 (by omega) fun y' w5 b5 o5 m5 hb5 => ?_
          have q5 : Below w3.heap.size w3 w5 := q4.trans (m5.below (by omega) (by simp; omega))
          exact c_spec_l07Count hk hn fuel (l ++ [x]) y' w5 _ (by rw [hL]; omega) (own_slI o5 (by rw [hL]; omega)) fun w6 hb6 => fin w6 (q5.trans (hb6.mono q5.size))
        · refine mk1 ySI rfl fun b4 w4 n4 o4 => c_spec_l01Own (hs3.keep n4.below) (by omega) fun w5 y b5 hb5 q5 o5 => ?_
          have hz4 := n4.below.size; have hz5 := q5.size
          refine app ySI 1 o5 (o4.keep q5).sl (by simp) (iv_one [x]) (by omega) fun y' w6 b6 o6 m6 hb6 => ?_
          have q6 : Below w3.heap.size w3 w6 := (n4.below.trans (q5.mono hz4)).trans (m6.below (by omega) (by simp; omega))
          have o6' : OwnI w6 b6 y' (l ++ [x]) := by
            unfold OwnI
            rw [hL, iv, List.map_append]
            exact o6
          exact c_spec_l07Count hk hn fuel (l ++ [x]) y' w6 _ (by rw [hL]; omega) (own_slI o6' (by rw [hL]; omega)) fun w7 hb7 => fin w7 (q6.trans (hb7.mono q6.size))
      · have hge := dec_f hge
        simp only at hge
        intro _
        have : i = cs.length := by omega
        subst this
        have := hK w2 (hbel.trans (hb2.mono hbel.size))
        rw [show ((cs.length : Int)).toNat = cs.length from by omega, List.take_length]
        exact this

end Go.Proofs.Ytdnofmicjgppnaa
