/- The reading of impl_free, and its contract. No condition. -/
import Derived.Test.YtdkodhonaoecnaaTy
import Derived.Test.YtdkodhonaoecnaaS8Free
import Derived.Test.YtdkodhonaoecnaaFimplUgoesOn
import Derived.Test.YtdkodhonaoecnaaFimplUsizeS
import Derived.Test.YtdkodhonaoecnaaFslicesUCloneUint64Uint64
namespace Go.Proofs.Ytdkodhonaoecnaa
open Go Go.RowKit Eng Mem
set_option linter.unusedVariables false
set_option maxRecDepth 100000
def B_impl_free_6 (n0 : Int) (k1 : Int) (kind2 : Int) (part3 : Value) (with4 : Value) (x21 : Int) (x22 : Int) (N : (Int × Int × Int × Value × Value × Int) → Int → World → Prop) (D0 : (Unit) → World → Prop) (R : (Bool × Unit) → World → Prop) (w : World) : Prop :=
  (((decide (x22 < x21)) = true → (Fc Try.prog 100 #[part3] w (.one .any) fun (x26_6 : Value) w_5 => (Pr Try.prog (Instr.buildSlice 25 1 #[(0, (.int .i64 x22))]) w_5 (.one .any) fun (x28_8 : Value) w_7 => (Pr Try.prog (Builtin.append_ #[25, 25] 25 #[x26_6, x28_8]) w_7 (.one .any) fun (x29_10 : Value) w_9 => (Fc Try.prog 109 #[x29_10, (.int .i64 kind2)] w_9 (.one .bool) fun (x32_12 : Bool) w_11 => ((x32_12 = true → (Fc Try.prog 61 #[(.int .i64 n0), (.int .i64 k1), (.int .i64 kind2), x29_10, with4] w_11 (.one .bool) fun (x39_14 : Bool) w_13 => (((!x39_14) = true → R (false, ()) w_13) ∧ ((!x39_14) = false → N (n0, k1, kind2, (part3 : Value), (with4 : Value), x21) (IntKind.i64.wrap (x22 + (1 : Int))) w_13)))) ∧ (x32_12 = false → N (n0, k1, kind2, (part3 : Value), (with4 : Value), x21) (IntKind.i64.wrap (x22 + (1 : Int))) w_11))))))) ∧ ((decide (x22 < x21)) = false → D0 () w))

abbrev L_impl_free_6_e0 : List Slot := [.junk, .junk, .junk, .junk, .junk, .junk, .junk, .junk, .junk, .junk, .junk, .junk, .junk, .junk, .junk, .junk, .junk, .junk, .junk, .junk, .junk, .junk, .junk, .junk, .junk, .junk, .junk, .junk, .junk, .junk, .junk, .junk, .junk, .junk, .junk, .junk, .junk, .junk, .junk, .junk, .junk, .junk, .junk]

abbrev L_impl_free_6_sp : List Slot := [.k (.int .i64), .k (.int .i64), .k (.int .i64), .k .any, .k .any, .junk, .junk, .junk, .junk, .junk, .junk, .junk, .junk, .junk, .junk, .junk, .junk, .junk, .junk, .junk, .junk, .k (.int .i64), .k (.int .i64), .junk, .junk, .junk, .junk, .junk, .junk, .junk, .junk, .junk, .junk, .junk, .junk, .junk, .junk, .junk, .junk, .junk, .junk, .junk, .junk]
abbrev L_impl_free_6_ex : List (Nat × List Slot) := [(0, L_impl_free_6_e0)]
abbrev L_impl_free_6_rt : List Slot := [.junk, .junk, .junk, .junk, .junk, .junk, .junk, .junk, .junk, .junk, .k .bool, .junk, .junk, .junk, .junk, .junk, .junk, .junk, .junk, .junk, .junk, .junk, .junk, .junk, .junk, .junk, .junk, .junk, .junk, .junk, .junk, .junk, .junk, .junk, .junk, .junk, .junk, .junk, .junk, .junk, .junk, .junk, .junk]

def L_impl_free_6_b (Φ : Post) (u : (Int × Int × Int × Value × Value × Int)) (N : (Int × Int × Int × Value × Value × Int) → Int → World → Prop) (s : Int) (w : World) : Prop :=
  B_impl_free_6 u.1 u.2.1 u.2.2.1 u.2.2.2.1 u.2.2.2.2.1 u.2.2.2.2.2 s N (fun v w => ∀ j : Nat → Value, Φ (.exit 0) (mkT j 0 L_impl_free_6_e0 v) w) (fun v w => ∀ j : Nat → Value, Φ .ret (mkT j 0 L_impl_free_6_rt v) w) w

theorem L_impl_free_6_eq (j : Nat → Value) (u : (Int × Int × Int × Value × Value × Int)) (s : Int) (N : (Int × Int × Int × Value × Value × Int) → Int → World → Prop) (D0 : (Unit) → World → Prop) (R : (Bool × Unit) → World → Prop) (w : World) :
    W Try.prog ty (fun _ _ _ _ => False) (loopAt Try.f61 6) (loopPost L_impl_free_6_sp [(0, (⟨L_impl_free_6_e0, D0⟩ : Door))] ⟨L_impl_free_6_rt, R⟩ (fun v w => N ((fun v => (v.1, v.2.1, v.2.2.1, v.2.2.2.1, v.2.2.2.2.1, v.2.2.2.2.2.1)) v) ((fun v => v.2.2.2.2.2.2.1) v) w)) (mkT j 0 L_impl_free_6_sp ((fun u s => (u.1, u.2.1, u.2.2.1, u.2.2.2.1, u.2.2.2.2.1, u.2.2.2.2.2, s, ())) u s)) w =
    B_impl_free_6 u.1 u.2.1 u.2.2.1 u.2.2.2.1 u.2.2.2.2.1 u.2.2.2.2.2 s N D0 R w := by
  kernel_rfl

def O_impl_free_1 : Code → Post → List SV → World → Prop :=
  orc 6 (loopAt Try.f61 6) L_impl_free_6_sp (fun Φ fr w => LOOP (U := (Int × Int × Int × Value × Value × Int)) (S := Int) ((fun v => (v.1, v.2.1, v.2.2.1, v.2.2.2.1, v.2.2.2.2.1, v.2.2.2.2.2.1)) (extT L_impl_free_6_sp fr)) (L_impl_free_6_b Φ ((fun v => (v.1, v.2.1, v.2.2.1, v.2.2.2.1, v.2.2.2.2.1, v.2.2.2.2.2.1)) (extT L_impl_free_6_sp fr))) ((fun v => v.2.2.2.2.2.2.1) (extT L_impl_free_6_sp fr)) w) (fun _ _ _ _ => False)

theorem O_impl_free_1_ok : Sound Try.prog O_impl_free_1 :=
  orc_ok (sound_none _) fun Φ fr w hs h => loop_ok (ty := ty) follows (sound_none _) L_impl_free_6_sp (fun v => (v.1, v.2.1, v.2.2.1, v.2.2.2.1, v.2.2.2.2.1, v.2.2.2.2.2.1)) (fun v => v.2.2.2.2.2.2.1) (fun u s => (u.1, u.2.1, u.2.2.1, u.2.2.2.1, u.2.2.2.2.1, u.2.2.2.2.2, s, ())) (fun _ => rfl) L_impl_free_6_ex L_impl_free_6_rt (body := L_impl_free_6_b Φ) (fun j u s w N hb => by
    have e := L_impl_free_6_eq j u s N (doorOf Φ (.exit 0) L_impl_free_6_e0).D (doorOf Φ .ret L_impl_free_6_rt).D w
    exact Eq.mpr e hb) hs h

def V_impl_free (n0 : Int) (k1 : Int) (kind2 : Int) (part3 : Value) (with4 : Value) (w : World) (K : Bool → World → Prop) : Prop :=
  (callV Try.prog with4 #[part3] w (.one .bool) fun (x15_2 : Bool) w_1 => (((!x15_2) = true → K false w_1) ∧ ((!x15_2) = false → (Fc Try.prog 63 #[part3] w_1 (.one (.int .i64)) fun (x18_4 : Int) w_3 => (((x18_4 == n0) = true → K true w_3) ∧ ((x18_4 == n0) = false → (At (loopAt Try.f61 6) (loopAt Try.f61 6) (LOOP (U := (Int × Int × Int × Value × Value × Int)) (S := Int) (n0, k1, kind2, (part3 : Value), (with4 : Value), k1) (fun N_21 s_22 w_23 => B_impl_free_6 n0 k1 kind2 (part3 : Value) (with4 : Value) k1 s_22 N_21 (fun (v_15 : (Unit)) w_16 => ∀ _j_17 : Nat → Value, K true w_16) (fun (v_18 : (Bool × Unit)) w_19 => ∀ _j_20 : Nat → Value, K v_18.1 w_19) w_23) (0 : Int) w_3))))))))

theorem eq_impl_free (n0 : Int) (k1 : Int) (kind2 : Int) (part3 : Value) (with4 : Value) (w : World) (K : Bool → World → Prop) :
    W Try.prog ty O_impl_free_1 (bodyOf Try.f61) (fnPost Try.prog Try.f61.results.toList (.one .bool) K) (frame0 [(.int .i64 n0), (.int .i64 k1), (.int .i64 kind2), part3, with4] 43) w = V_impl_free n0 k1 kind2 part3 with4 w K := by
  kernel_rfl

theorem body_impl_free : Try.f61.body = some (bodyOf Try.f61) := by kernel_rfl
theorem name_impl_free : (Try.f61.name == "runtime.NumGoroutine") = false := by kernel_rfl

theorem walk_impl_free (n0 : Int) (k1 : Int) (kind2 : Int) (part3 : Value) (with4 : Value) {w : World} {K : Bool → World → Prop} (h : V_impl_free n0 k1 kind2 part3 with4 w K) : Fc Try.prog 61 #[(.int .i64 n0), (.int .i64 k1), (.int .i64 kind2), part3, with4] w (.one .bool) K :=
  fn_ok follows O_impl_free_1_ok Try.func61 name_impl_free body_impl_free Try.ntmps61 [(.int .i64 n0), (.int .i64 k1), (.int .i64 kind2), part3, with4] (Eq.mpr (eq_impl_free n0 k1 kind2 part3 with4 w K) h)

-- uses S8Free
theorem c_impl_free {f : Value} {k kind : Int} {n : Nat} (r : List Int → Bool) (J : List (List Int) → World → Prop) (B0 : Nat) (T : List (List Int)) (hk : 0 ≤ k ∧ k ≤ 3) (hkind : 0 ≤ kind ∧ kind ≤ 2) (hn : n ≤ 40)
    (hst : ∀ d w' w'', J d w' → Below w'.heap.size w' w'' → J d w'')
    (hcall : ∀ d l e, T = d ++ l :: e → l.length ≤ n → ∀ (part : Value) (w' : World) (K' : Bool → World → Prop), J d w' → MyI B0 w'.heap.size w' part l → (∀ w'', J (d ++ [l]) w'' → ModR 0 B0 w' w'' → K' (r l) w'') → callV Try.prog f #[part] w' (.one .bool) K') :
    ∀ (fuel : Nat) (l : List Int) (part : Value) (d e : List (List Int)) (w : World) (K : Bool → World → Prop), l.length + fuel = n → T = d ++ (goF r k kind n fuel l).1 ++ e → J d w → B0 ≤ w.heap.size → MyI B0 w.heap.size w part l →
      (∀ w', J (d ++ (goF r k kind n fuel l).1) w' → ModR 0 B0 w w' → K (goF r k kind n fuel l).2 w') →
      Fc Try.prog F_impl_free #[.int .i64 n, .int .i64 k, .int .i64 kind, part, f] w (.one .bool) K
  | fuel, l, part, d, e, w, K, hlen, hT, hJ, hB, hm, hK => by
    refine walk_impl_free _ _ _ _ _ ?_
    have hhead : ∃ t, (goF r k kind n fuel l).1 = l :: t := by
      unfold goF
      split
      · split
        · exact ⟨[], rfl⟩
        · split <;> exact ⟨_, rfl⟩
      · exact ⟨[], rfl⟩
    obtain ⟨t, ht⟩ := hhead
    refine hcall d l (t ++ e) (by rw [hT, ht]; simp) (by omega) part w _ hJ hm fun w1 hJ1 mr1 => ?_
    have hm1 := hm.modr mr1 (by omega)
    have hs1 := mr1.size
    refine ⟨fun hr => ?_, fun hr => ?_⟩
    · have hr := not_t hr
      have e1 : goF r k kind n fuel l = ([l], false) := by unfold goF; rw [hr]; rfl
      rw [e1] at hK
      exact hK w1 hJ1 mr1
    have hr := not_f hr
    refine c_impl_sizeS hm1.sl ⟨fun he => ?_, fun hne => ?_⟩
    · have he := eq_t he
      have e1 : goF r k kind n fuel l = ([l], true) := by unfold goF; rw [if_pos hr, if_pos (by omega)]
      rw [e1] at hK
      exact hK w1 hJ1 mr1
    have hne := eq_f hne
    match fuel, hlen, hT, hK, ht with
    | 0, hlen, _, _, _ => omega
    | fuel + 1, hlen, hT, hK, ht =>
      have e1 : goF r k kind n (fuel + 1) l = (l :: (goL (goF r k kind n fuel) ((nextL l kind k.toNat).map fun c => l ++ [c])).1, (goL (goF r k kind n fuel) ((nextL l kind k.toNat).map fun c => l ++ [c])).2) := by
        rw [goF]; rw [if_pos hr, if_neg (by omega)]
      rw [e1] at hK hT
      obtain ⟨go, hgo⟩ : ∃ go, goF r k kind n fuel = go := ⟨_, rfl⟩
      rw [hgo] at hK hT
      -- the colours that are still to come
      let rest : Nat → List (List Int) := fun c => (((List.range k.toNat).drop c).filter fun c : Nat => decide (fz (l ++ [(c : Int)]) kind (l.length + 1) l.length = [])).map fun c : Nat => l ++ [(c : Int)]
      have hrest : ∀ c : Nat, c < k.toNat → rest c = (if fz (l ++ [(c : Int)]) kind (l.length + 1) l.length = [] then [l ++ [(c : Int)]] else []) ++ rest (c + 1) := fun c hc => by
        show List.map _ (List.filter _ ((List.range k.toNat).drop c)) = _
        rw [List.drop_eq_getElem_cons (by simpa using hc), List.getElem_range]
        by_cases h : fz (l ++ [(c : Int)]) kind (l.length + 1) l.length = []
        · rw [List.filter_cons_of_pos (by simpa using h), if_pos h]; rfl
        · rw [List.filter_cons_of_neg (by simpa using h), if_neg h]; rfl
      have hrest0 : rest 0 = (nextL l kind k.toNat).map fun c => l ++ [c] := by
        show List.map _ (List.filter _ ((List.range k.toNat).drop 0)) = _
        rw [List.drop_zero, nextL, List.map_map]
        rfl
      rw [← hrest0] at hK hT
      refine lp (fun c w' => 0 ≤ c ∧ c ≤ k ∧ ModR 0 B0 w w' ∧ ∃ d' : List (List Int), J d' w' ∧ d ++ l :: (goL go (rest 0)).1 = d' ++ (goL go (rest c.toNat)).1 ∧ (goL go (rest 0)).2 = (goL go (rest c.toNat)).2)
        (fun c _ => (k - c).toNat) ⟨by omega, by omega, mr1, d ++ [l], hJ1, by simp, rfl⟩ ?_
      rintro c w2 N ⟨c0, c1, mr2, d', hJ2, hd, hb⟩ hN
      unfold B_impl_free_6
      have hs2 := mr2.size
      have hm2 := hm.modr mr2 (by omega)
      refine ⟨fun hlt => ?_, fun hge => ?_⟩
      · have hlt := dec_t hlt
        have hcc : ((c.toNat : Nat) : Int) = c := by omega
        have hrc := hrest c.toNat (by omega)
        rw [hcc] at hrc
        refine c_slices_Clone_int64_int64 hm2.sl (by omega) fun v w3 hb3 hv => ?_
        have hs3 := hb3.size
        -- the copy, and the colour at its end
        have happ : ∀ (K' : Value → World → Prop), (∀ v' w5, Below w2.heap.size w2 w5 → MyI B0 w5.heap.size w5 v' (l ++ [c]) → K' v' w5) →
            Pr Try.prog (Instr.buildSlice tSI 1 #[(0, .int .i64 c)]) w3 (.one .any) fun y w4 => Pr Try.prog (Builtin.append_ #[tSI, tSI] tSI #[v, y]) w4 (.one .any) K' := fun K' hK' => by
          rcases hv with ⟨_, ⟨rfl, hnil⟩ | ⟨b, hbB, hbE, ho⟩⟩
          · refine mk1 ySI rfl fun b1 w4 n4 ho4 => app_nil ySI 1 (ys := iv [c]) ho4.sl (by simp) (by omega) (by omega) fun v' w5 b' o m hb' => ?_
            have hs4 := n4.below.size
            refine hK' v' w5 ((hb3.trans (n4.below.mono hs3)).trans (m.below (by omega) (by simp))) (own_my (b := b') ?_ (by simp; omega) (by omega) o.lt)
            rw [hnil]
            exact o
          · refine appI ho (by omega) fun v' w5 b' o m hb' => ?_
            exact hK' v' w5 (hb3.trans (m.below (by omega) (by simp; omega))) (own_my o (by simp; omega) (by omega) o.lt)
        refine happ _ fun v' w5 hb5 hv' => ?_
        have hs5 := hb5.size
        have hL : (l ++ [c]).length = l.length + 1 := by simp
        refine c_impl_goesOn hv'.sl (by rw [hL]; omega) hkind fun w6 hb6 => ?_
        have hb26 := hb5.trans (hb6.mono hs5)
        have hs6 := hb6.size
        have mr6 : ModR 0 B0 w w6 := mr2.trans (below_modr hb26)
        have hJ6 := hst _ _ _ hJ2 hb26
        have hv6 := (hv'.keep hb6).mono (Nat.le_refl _) hb6.size
        have hnext : N (n, k, kind, part, f, k) (IntKind.i64.wrap (c + 1)) = N (n, k, kind, part, f, k) (c + 1) := by rw [wrap_small (by omega) (by omega)]
        rw [hL, show ((l.length + 1 : Nat) : Int) = (l.length : Int) + 1 from by omega, show l.length + 1 - 1 = l.length from by omega]
        refine ⟨fun hg => ?_, fun hg => ?_⟩
        · have hg := dec_t hg
          rw [if_pos hg] at hrc
          have hrec := c_impl_free r J B0 T hk hkind hn hst hcall fuel (l ++ [c]) v' d' ((if (go (l ++ [c])).2 then (goL go (rest (c.toNat + 1))).1 else []) ++ e) w6
          rw [hgo] at hrec
          refine hrec _ (by rw [hL]; omega) ?_ hJ6 (by omega) hv6 fun w7 hJ7 mr7 => ?_
          · rw [hT, hd, hrc]
            simp only [List.singleton_append, goL]
            split <;> simp
          · rw [hrc] at hd hb
            simp only [List.singleton_append, goL] at hd hb
            refine ⟨fun hx => ?_, fun hx => ?_⟩
            · have hx := not_t hx
              intro _
              rw [hx] at hd hb
              have := hK w7 (by rw [hd]; exact hJ7) (mr6.trans mr7)
              rw [hb] at this
              exact this
            · have hx := not_f hx
              rw [hx] at hd hb
              rw [hnext]
              refine hN _ _ ⟨by omega, by omega, mr6.trans mr7, _, hJ7, ?_, ?_⟩ (by omega)
              · rw [hd, show (c + 1).toNat = c.toNat + 1 from by omega]; simp
              · rw [hb, show (c + 1).toNat = c.toNat + 1 from by omega]; simp
        · have hg := dec_f hg
          rw [if_neg hg, List.nil_append] at hrc
          rw [hnext]
          refine hN _ _ ⟨by omega, by omega, mr6, d', hJ6, ?_, ?_⟩ (by omega)
          · rw [hd, show (c + 1).toNat = c.toNat + 1 from by omega, hrc]
          · rw [hb, show (c + 1).toNat = c.toNat + 1 from by omega, hrc]
      · have hge := dec_f hge
        have : c = k := by omega
        subst this
        intro _
        have hend : rest c.toNat = [] := by
          show List.map _ (List.filter _ ((List.range c.toNat).drop c.toNat)) = _
          rw [List.drop_of_length_le (by simp)]
          rfl
        rw [hend] at hd hb
        simp only [goL, List.append_nil] at hd hb
        have := hK w2 (by rw [hd]; exact hJ2) mr2
        rw [hb] at this
        exact this

end Go.Proofs.Ytdkodhonaoecnaa
