/- The reading of spec_l06Orders, and its contract. No condition. -/
import Derived.Test.YtdkodhonaoecnaaTy
import Derived.Test.YtdkodhonaoecnaaS9Met
import Derived.Test.YtdkodhonaoecnaaFspecUl01Own
namespace Go.Proofs.Ytdkodhonaoecnaa
open Go Go.RowKit Eng Mem
set_option linter.unusedVariables false
set_option maxRecDepth 100000
def B_spec_l06Orders_9 (begin0 : Value) (k1 : Int) (out5 : Value) (c6 : Int) (known7 : Bool) (i8 : Int) (N : (Value × Int × Value × Int) → (Bool × Int) → World → Prop) (D2 : (Value × Int × Value × Int × Bool × Unit) → World → Prop) (w : World) : Prop :=
  (QAll Try.prog (Builtin.len_ #[25] 3 #[begin0]) (.int .i64) fun (x23_6 : Int) => (((decide (i8 < x23_6)) = true → ((known7 = true → N ((begin0 : Value), k1, (out5 : Value), c6) (true, (IntKind.i64.wrap (i8 + (1 : Int)))) w) ∧ (known7 = false → (QAll Try.prog (Instr.indexAt 25 begin0 (.int .i64 i8)) .any fun (x31_7 : Value) => (QSub Try.prog (Instr.loadAt 2 x31_7) w (.int .i64) fun (x32_8 : Int) => N ((begin0 : Value), k1, (out5 : Value), c6) ((x32_8 == c6), (IntKind.i64.wrap (i8 + (1 : Int)))) w))))) ∧ ((decide (i8 < x23_6)) = false → D2 ((begin0 : Value), k1, (out5 : Value), c6, known7, ()) w)))

abbrev L_spec_l06Orders_9_e2 : List Slot := [.k .any, .k (.int .i64), .junk, .junk, .junk, .k .any, .k (.int .i64), .k .bool, .junk, .junk, .junk, .junk, .junk, .junk, .junk, .junk, .junk, .junk, .junk, .junk, .junk, .junk, .junk, .junk, .junk, .junk, .junk, .junk, .junk, .junk, .junk, .junk, .junk, .junk, .junk, .junk, .junk, .junk, .junk, .junk, .junk, .junk, .junk, .junk, .junk, .junk, .junk, .junk]

abbrev L_spec_l06Orders_9_sp : List Slot := [.k .any, .k (.int .i64), .junk, .junk, .junk, .k .any, .k (.int .i64), .k .bool, .k (.int .i64), .junk, .junk, .junk, .junk, .junk, .junk, .junk, .junk, .junk, .junk, .junk, .junk, .junk, .junk, .junk, .junk, .junk, .junk, .junk, .junk, .junk, .junk, .junk, .junk, .junk, .junk, .junk, .junk, .junk, .junk, .junk, .junk, .junk, .junk, .junk, .junk, .junk, .junk, .junk]
abbrev L_spec_l06Orders_9_ex : List (Nat × List Slot) := [(2, L_spec_l06Orders_9_e2)]
abbrev L_spec_l06Orders_9_rt : List Slot := [.junk, .junk, .junk, .junk, .junk, .junk, .junk, .junk, .junk, .junk, .junk, .junk, .junk, .junk, .junk, .junk, .junk, .junk, .junk, .junk, .junk, .junk, .junk, .junk, .junk, .junk, .junk, .junk, .junk, .junk, .junk, .junk, .junk, .junk, .junk, .junk, .junk, .junk, .junk, .junk, .junk, .junk, .junk, .junk, .junk, .junk, .junk, .junk]

def L_spec_l06Orders_9_b (Φ : Post) (u : (Value × Int × Value × Int)) (N : (Value × Int × Value × Int) → (Bool × Int) → World → Prop) (s : (Bool × Int)) (w : World) : Prop :=
  B_spec_l06Orders_9 u.1 u.2.1 u.2.2.1 u.2.2.2 s.1 s.2 N (fun v w => ∀ j : Nat → Value, Φ (.exit 2) (mkT j 0 L_spec_l06Orders_9_e2 v) w) w

theorem L_spec_l06Orders_9_eq (j : Nat → Value) (u : (Value × Int × Value × Int)) (s : (Bool × Int)) (N : (Value × Int × Value × Int) → (Bool × Int) → World → Prop) (D2 : (Value × Int × Value × Int × Bool × Unit) → World → Prop) (R : (Unit) → World → Prop) (w : World) :
    W Try.prog ty (fun _ _ _ _ => False) (loopAt Try.f46 9) (loopPost L_spec_l06Orders_9_sp [(2, (⟨L_spec_l06Orders_9_e2, D2⟩ : Door))] ⟨L_spec_l06Orders_9_rt, R⟩ (fun v w => N ((fun v => (v.1, v.2.1, v.2.2.1, v.2.2.2.1)) v) ((fun v => (v.2.2.2.2.1, v.2.2.2.2.2.1)) v) w)) (mkT j 0 L_spec_l06Orders_9_sp ((fun u s => (u.1, u.2.1, u.2.2.1, u.2.2.2, s.1, s.2, ())) u s)) w =
    B_spec_l06Orders_9 u.1 u.2.1 u.2.2.1 u.2.2.2 s.1 s.2 N D2 w := by
  kernel_rfl

def O_spec_l06Orders_1 : Code → Post → List SV → World → Prop :=
  orc 9 (loopAt Try.f46 9) L_spec_l06Orders_9_sp (fun Φ fr w => LOOP (U := (Value × Int × Value × Int)) (S := (Bool × Int)) ((fun v => (v.1, v.2.1, v.2.2.1, v.2.2.2.1)) (extT L_spec_l06Orders_9_sp fr)) (L_spec_l06Orders_9_b Φ ((fun v => (v.1, v.2.1, v.2.2.1, v.2.2.2.1)) (extT L_spec_l06Orders_9_sp fr))) ((fun v => (v.2.2.2.2.1, v.2.2.2.2.2.1)) (extT L_spec_l06Orders_9_sp fr)) w) (fun _ _ _ _ => False)

theorem O_spec_l06Orders_1_ok : Sound Try.prog O_spec_l06Orders_1 :=
  orc_ok (sound_none _) fun Φ fr w hs h => loop_ok (ty := ty) follows (sound_none _) L_spec_l06Orders_9_sp (fun v => (v.1, v.2.1, v.2.2.1, v.2.2.2.1)) (fun v => (v.2.2.2.2.1, v.2.2.2.2.2.1)) (fun u s => (u.1, u.2.1, u.2.2.1, u.2.2.2, s.1, s.2, ())) (fun _ => rfl) L_spec_l06Orders_9_ex L_spec_l06Orders_9_rt (body := L_spec_l06Orders_9_b Φ) (fun j u s w N hb => by
    have e := L_spec_l06Orders_9_eq j u s N (doorOf Φ (.exit 2) L_spec_l06Orders_9_e2).D (doorOf Φ .ret L_spec_l06Orders_9_rt).D w
    exact Eq.mpr e hb) hs h

def B_spec_l06Orders_5 (begin0 : Value) (k1 : Int) (out5 : Value) (c6 : Int) (N : (Value × Int) → (Value × Int) → World → Prop) (D0 : (Value × Unit) → World → Prop) (w : World) : Prop :=
  (((decide (c6 < k1)) = true → (At (loopAt Try.f46 9) (loopAt Try.f46 9) (LOOP (U := (Value × Int × Value × Int)) (S := (Bool × Int)) ((begin0 : Value), k1, (out5 : Value), c6) (fun N_22 s_23 w_24 => B_spec_l06Orders_9 (begin0 : Value) k1 (out5 : Value) c6 s_23.1 s_23.2 N_22 (fun (v_9 : (Value × Int × Value × Int × Bool × Unit)) w_10 => ∀ _j_11 : Nat → Value, (((!v_9.2.2.2.2.1) = true → (Fc Try.prog 98 #[v_9.1] w_10 (.one .any) fun (x40_13 : Value) w_12 => (Pr Try.prog (Instr.buildSlice 25 1 #[(0, (.int .i64 v_9.2.2.2.1))]) w_12 (.one .any) fun (x42_15 : Value) w_14 => (Pr Try.prog (Builtin.append_ #[25, 25] 25 #[x40_13, x42_15]) w_14 (.one .any) fun (x43_17 : Value) w_16 => (Fc Try.prog 46 #[x43_17, (.int .i64 v_9.2.1)] w_16 (.one .any) fun (x45_19 : Value) w_18 => (Pr Try.prog (Builtin.append_ #[55, 55] 55 #[v_9.2.2.1, x45_19]) w_18 (.one .any) fun (x46_21 : Value) w_20 => N ((v_9.1 : Value), v_9.2.1) ((x46_21 : Value), (IntKind.i64.wrap (v_9.2.2.2.1 + (1 : Int)))) w_20)))))) ∧ ((!v_9.2.2.2.2.1) = false → N ((v_9.1 : Value), v_9.2.1) ((v_9.2.2.1 : Value), (IntKind.i64.wrap (v_9.2.2.2.1 + (1 : Int)))) w_10))) w_24) (false, (0 : Int)) w))) ∧ ((decide (c6 < k1)) = false → D0 ((out5 : Value), ()) w))

abbrev L_spec_l06Orders_5_e0 : List Slot := [.junk, .junk, .junk, .junk, .junk, .k .any, .junk, .junk, .junk, .junk, .junk, .junk, .junk, .junk, .junk, .junk, .junk, .junk, .junk, .junk, .junk, .junk, .junk, .junk, .junk, .junk, .junk, .junk, .junk, .junk, .junk, .junk, .junk, .junk, .junk, .junk, .junk, .junk, .junk, .junk, .junk, .junk, .junk, .junk, .junk, .junk, .junk, .junk]

abbrev L_spec_l06Orders_5_sp : List Slot := [.k .any, .k (.int .i64), .junk, .junk, .junk, .k .any, .k (.int .i64), .junk, .junk, .junk, .junk, .junk, .junk, .junk, .junk, .junk, .junk, .junk, .junk, .junk, .junk, .junk, .junk, .junk, .junk, .junk, .junk, .junk, .junk, .junk, .junk, .junk, .junk, .junk, .junk, .junk, .junk, .junk, .junk, .junk, .junk, .junk, .junk, .junk, .junk, .junk, .junk, .junk]
abbrev L_spec_l06Orders_5_ex : List (Nat × List Slot) := [(0, L_spec_l06Orders_5_e0)]
abbrev L_spec_l06Orders_5_rt : List Slot := [.junk, .junk, .junk, .junk, .junk, .junk, .junk, .junk, .junk, .junk, .junk, .junk, .junk, .junk, .junk, .junk, .junk, .junk, .junk, .junk, .junk, .junk, .junk, .junk, .junk, .junk, .junk, .junk, .junk, .junk, .junk, .junk, .junk, .junk, .junk, .junk, .junk, .junk, .junk, .junk, .junk, .junk, .junk, .junk, .junk, .junk, .junk, .junk]

def L_spec_l06Orders_5_b (Φ : Post) (u : (Value × Int)) (N : (Value × Int) → (Value × Int) → World → Prop) (s : (Value × Int)) (w : World) : Prop :=
  B_spec_l06Orders_5 u.1 u.2 s.1 s.2 N (fun v w => ∀ j : Nat → Value, Φ (.exit 0) (mkT j 0 L_spec_l06Orders_5_e0 v) w) w

theorem L_spec_l06Orders_5_eq (j : Nat → Value) (u : (Value × Int)) (s : (Value × Int)) (N : (Value × Int) → (Value × Int) → World → Prop) (D0 : (Value × Unit) → World → Prop) (R : (Unit) → World → Prop) (w : World) :
    W Try.prog ty O_spec_l06Orders_1 (loopAt Try.f46 5) (loopPost L_spec_l06Orders_5_sp [(0, (⟨L_spec_l06Orders_5_e0, D0⟩ : Door))] ⟨L_spec_l06Orders_5_rt, R⟩ (fun v w => N ((fun v => (v.1, v.2.1)) v) ((fun v => (v.2.2.1, v.2.2.2.1)) v) w)) (mkT j 0 L_spec_l06Orders_5_sp ((fun u s => (u.1, u.2, s.1, s.2, ())) u s)) w =
    B_spec_l06Orders_5 u.1 u.2 s.1 s.2 N D0 w := by
  kernel_rfl

def O_spec_l06Orders_2 : Code → Post → List SV → World → Prop :=
  orc 5 (loopAt Try.f46 5) L_spec_l06Orders_5_sp (fun Φ fr w => LOOP (U := (Value × Int)) (S := (Value × Int)) ((fun v => (v.1, v.2.1)) (extT L_spec_l06Orders_5_sp fr)) (L_spec_l06Orders_5_b Φ ((fun v => (v.1, v.2.1)) (extT L_spec_l06Orders_5_sp fr))) ((fun v => (v.2.2.1, v.2.2.2.1)) (extT L_spec_l06Orders_5_sp fr)) w) O_spec_l06Orders_1

theorem O_spec_l06Orders_2_ok : Sound Try.prog O_spec_l06Orders_2 :=
  orc_ok O_spec_l06Orders_1_ok fun Φ fr w hs h => loop_ok (ty := ty) follows O_spec_l06Orders_1_ok L_spec_l06Orders_5_sp (fun v => (v.1, v.2.1)) (fun v => (v.2.2.1, v.2.2.2.1)) (fun u s => (u.1, u.2, s.1, s.2, ())) (fun _ => rfl) L_spec_l06Orders_5_ex L_spec_l06Orders_5_rt (body := L_spec_l06Orders_5_b Φ) (fun j u s w N hb => by
    have e := L_spec_l06Orders_5_eq j u s N (doorOf Φ (.exit 0) L_spec_l06Orders_5_e0).D (doorOf Φ .ret L_spec_l06Orders_5_rt).D w
    exact Eq.mpr e hb) hs h

def V_spec_l06Orders (begin0 : Value) (k1 : Int) (w : World) (K : Value → World → Prop) : Prop :=
  (QAll Try.prog (Builtin.len_ #[25] 3 #[begin0]) (.int .i64) fun (x10_1 : Int) => (((x10_1 == k1) = true → (Pr Try.prog (Instr.buildSlice 55 1 #[(0, begin0)]) w (.one .any) fun (x14_3 : Value) w_2 => K (x14_3 : Value) w_2)) ∧ ((x10_1 == k1) = false → (Pr Try.prog (Instr.buildSlice 55 0 #[]) w (.one .any) fun (x15_5 : Value) w_4 => (At (loopAt Try.f46 5) (loopAt Try.f46 5) (LOOP (U := (Value × Int)) (S := (Value × Int)) ((begin0 : Value), k1) (fun N_28 s_29 w_30 => B_spec_l06Orders_5 (begin0 : Value) k1 s_29.1 s_29.2 N_28 (fun (v_25 : (Value × Unit)) w_26 => ∀ _j_27 : Nat → Value, K (v_25.1 : Value) w_26) w_30) ((x15_5 : Value), (0 : Int)) w_4))))))

theorem eq_spec_l06Orders (begin0 : Value) (k1 : Int) (w : World) (K : Value → World → Prop) :
    W Try.prog ty O_spec_l06Orders_2 (bodyOf Try.f46) (fnPost Try.prog Try.f46.results.toList (.one .any) K) (frame0 [begin0, (.int .i64 k1)] 48) w = V_spec_l06Orders begin0 k1 w K := by
  kernel_rfl

theorem body_spec_l06Orders : Try.f46.body = some (bodyOf Try.f46) := by kernel_rfl
theorem name_spec_l06Orders : (Try.f46.name == "runtime.NumGoroutine") = false := by kernel_rfl

theorem walk_spec_l06Orders (begin0 : Value) (k1 : Int) {w : World} {K : Value → World → Prop} (h : V_spec_l06Orders begin0 k1 w K) : Fc Try.prog 46 #[begin0, (.int .i64 k1)] w (.one .any) K :=
  fn_ok follows O_spec_l06Orders_2_ok Try.func46 name_spec_l06Orders body_spec_l06Orders Try.ntmps46 [begin0, (.int .i64 k1)] (Eq.mpr (eq_spec_l06Orders begin0 k1 w K) h)

-- uses S9Met
theorem c_spec_l06Orders {n : Nat} (hn : 1 ≤ n) (hn7 : n ≤ 7) : ∀ (f : Nat) (l : List Int) (v : Value) (B : Nat) (w : World) (K : Value → World → Prop), l.length + f = n → B ≤ w.heap.size → MyI B w.heap.size w v l →
    (∀ u w' b, w.heap.size ≤ b → Below w.heap.size w w' → MySS B b w' u (ordF n f l) → K u w') → Fc Try.prog F_spec_l06Orders #[v, .int .i64 (n : Int)] w (.one .any) K
  | f, l, v, B, w, K, hlen, hB, hv, hK => by
    refine walk_spec_l06Orders _ _ (lenI hv.sl ⟨fun he => ?_, fun hne => ?_⟩)
    · have he := eq_t he
      have hf : f = 0 := by omega
      subst hf
      rcases hv with ⟨_, ⟨_, rfl⟩ | ⟨c, hc, _, ho⟩⟩
      · simp at hlen; omega
      · exact oneSS ho hc fun u w' b hb q h => hK u w' b hb q h
    · have hne := eq_f hne
      match f, hlen, hK with
      | 0, hlen, _ => omega
      | f + 1, hlen, hK =>
        have hpow : n ^ f ≤ 7 ^ 7 := Nat.le_trans (Nat.pow_le_pow_left hn7 f) (Nat.pow_le_pow_right (by omega) (by omega))
        refine nilSS fun b0 v0 w1 hb0 q1 _ h0 => ?_
        rw [ordF_succ] at hK
        refine lp (fun s w' => Below w.heap.size w w' ∧ ∃ (i b : Nat), s.2 = i ∧ i ≤ n ∧ w.heap.size ≤ b ∧ MySS B b w' s.1 (ordR n f l i)) (fun s _ => (17 - s.2).toNat) ⟨q1, 0, b0, rfl, by omega, hb0, h0.mono (by omega)⟩ ?_
        rintro ⟨u, t⟩ w2 N ⟨q2, i, b, hi, hin, hb, hu⟩ hN
        simp only at hi hu
        subst hi
        unfold B_spec_l06Orders_5
        dsimp only
        have hs2 := q2.size
        have hv2 := (hv.keep q2).mono (Nat.le_refl _) hs2
        have hrl := ordR_len n f l i
        refine ⟨fun hlt => ?_, fun hge => ?_⟩
        · have hlt := dec_t hlt
          refine lp (fun s w' => w' = w2 ∧ ∃ k : Nat, s.2 = k ∧ k ≤ l.length ∧ s.1 = (l.take k).contains (i : Int)) (fun s _ => (l.length - s.2).toNat) ⟨rfl, 0, rfl, by omega, by simp⟩ ?_
          rintro ⟨kn, t'⟩ w2' N' ⟨rfl, k, hk, hkl, hkn⟩ hN'
          simp only at hk hkn
          subst hk; subst hkn
          unfold B_spec_l06Orders_9
          dsimp only
          refine lenI hv2.sl ⟨fun hlt2 => ?_, fun hge2 => ?_⟩
          · have hlt2 := dec_t hlt2
            have hkl : k < l.length := by omega
            have htk : l.take (k + 1) = l.take k ++ [l.getD k 0] := by rw [List.take_succ_eq_append_getElem hkl]; simp [hkl]
            refine ⟨fun hyes => ?_, fun hno => atI hv2.sl (by omega) (by omega) ?_⟩
            · rw [wrap_small (by omega) (by omega)]
              refine hN' _ _ ⟨rfl, k + 1, by simp only; omega, by omega, ?_⟩ (by simp only; omega)
              simp only [htk]
              rw [List.contains_iff_mem] at hyes
              symm
              rw [List.contains_iff_mem, List.mem_append]
              exact .inl hyes
            · rw [wrap_small (by omega) (by omega), Int.toNat_natCast]
              refine hN' _ _ ⟨rfl, k + 1, by simp only; omega, by omega, ?_⟩ (by simp only; omega)
              simp only [htk]
              have hno : (i : Int) ∉ l.take k := fun h => by rw [← List.contains_iff_mem] at h; rw [h] at hno; cases hno
              rw [Bool.eq_iff_iff, beq_iff_eq, List.contains_iff_mem, List.mem_append, List.mem_singleton]
              exact ⟨fun h => .inr h.symm, fun h => h.elim (fun h => absurd h hno) Eq.symm⟩
          · have hge2 := dec_f hge2
            have : k = l.length := by omega
            subst this
            rw [List.take_length]
            intro _
            try dsimp only
            refine ⟨fun hno => ?_, fun hyes => ?_⟩
            · have hno : (i : Int) ∉ l := by simpa using not_t hno
              refine c_spec_l01Own hv2.sl (by omega) fun w3 x c hc q3 hx => ?_
              have hs3 := q3.size
              refine appI hx (by omega) fun x' w4 c' hx' m4 hc' => ?_
              have q24 : Below w2'.heap.size w2' w4 := q3.trans (m4.below (by omega) (by simp; omega))
              have hs4 := q24.size
              have hlt4 := hx'.lt
              refine c_spec_l06Orders hn hn7 f (l ++ [(i : Int)]) x' B w4 _ (by simp; omega) (by omega) (own_my hx' (by simp; omega) (by omega) hlt4) fun y w5 b5 hb5 q5 hy => ?_
              have q25 := q24.trans (q5.mono hs4)
              have hyl := ordF_len n f (l ++ [(i : Int)])
              have hil : i * n ^ f ≤ 7 * 7 ^ 7 := Nat.mul_le_mul (by omega) hpow
              refine appsSS (hu.keep q25) hy (by omega) fun u' w6 b6 hu' m6 hb6 => ?_
              have hs5 := q25.size
              rw [wrap_small (by omega) (by omega)]
              refine hN _ _ ⟨(q2.trans (q25.mono hs2)).trans (m6.below (by omega) (by simp; omega)), i + 1, b6, by simp only; omega, by omega, by omega, ?_⟩ (by simp only; omega)
              rw [ordR_go hno]
              exact hu'
            · have hyes : (i : Int) ∈ l := by simpa using not_f hyes
              rw [wrap_small (by omega) (by omega)]
              refine hN _ _ ⟨q2, i + 1, b, by simp only; omega, by omega, hb, ?_⟩ (by simp only; omega)
              rw [ordR_skip hyes]
              exact hu
        · have hge := dec_f hge
          have : i = n := by omega
          subst this
          intro _
          exact hK u w2 b hb q2 hu

end Go.Proofs.Ytdkodhonaoecnaa
