/- The reading of impl_orders, and its contract. No condition. -/
import Derived.Test.YtdkodhonaoecnaaTy
import Derived.Test.YtdkodhonaoecnaaS9Met
import Derived.Test.YtdkodhonaoecnaaFimplUsizeS
import Derived.Test.YtdkodhonaoecnaaFslicesUCloneUint64Uint64
import Derived.Test.YtdkodhonaoecnaaFslicesUContainsUint64Uint64
namespace Go.Proofs.Ytdkodhonaoecnaa
open Go Go.RowKit Eng Mem
set_option linter.unusedVariables false
set_option maxRecDepth 100000
def B_impl_orders_5 (n0 : Int) (list1 : Value) (x14 : Int) (out5 : Value) (x15 : Int) (N : (Int × Value × Int) → (Value × Int) → World → Prop) (D0 : (Value × Unit) → World → Prop) (w : World) : Prop :=
  (((decide (x15 < x14)) = true → (Fc Try.prog 99 #[list1, (.int .i64 x15)] w (.one .bool) fun (x20_8 : Bool) w_7 => (((!x20_8) = true → (Fc Try.prog 100 #[list1] w_7 (.one .any) fun (x25_10 : Value) w_9 => (Pr Try.prog (Instr.buildSlice 25 1 #[(0, (.int .i64 x15))]) w_9 (.one .any) fun (x27_12 : Value) w_11 => (Pr Try.prog (Builtin.append_ #[25, 25] 25 #[x25_10, x27_12]) w_11 (.one .any) fun (x28_14 : Value) w_13 => (Fc Try.prog 49 #[(.int .i64 n0), x28_14] w_13 (.one .any) fun (x29_16 : Value) w_15 => (Pr Try.prog (Builtin.append_ #[55, 55] 55 #[out5, x29_16]) w_15 (.one .any) fun (x30_18 : Value) w_17 => N (n0, (list1 : Value), x14) ((x30_18 : Value), (IntKind.i64.wrap (x15 + (1 : Int)))) w_17)))))) ∧ ((!x20_8) = false → N (n0, (list1 : Value), x14) ((out5 : Value), (IntKind.i64.wrap (x15 + (1 : Int)))) w_7)))) ∧ ((decide (x15 < x14)) = false → D0 ((out5 : Value), ()) w))

abbrev L_impl_orders_5_e0 : List Slot := [.junk, .junk, .junk, .junk, .junk, .k .any, .junk, .junk, .junk, .junk, .junk, .junk, .junk, .junk, .junk, .junk, .junk, .junk, .junk, .junk, .junk, .junk, .junk, .junk, .junk, .junk, .junk, .junk, .junk, .junk, .junk, .junk, .junk]

abbrev L_impl_orders_5_sp : List Slot := [.k (.int .i64), .k .any, .junk, .junk, .junk, .k .any, .junk, .junk, .junk, .junk, .junk, .junk, .junk, .junk, .k (.int .i64), .k (.int .i64), .junk, .junk, .junk, .junk, .junk, .junk, .junk, .junk, .junk, .junk, .junk, .junk, .junk, .junk, .junk, .junk, .junk]
abbrev L_impl_orders_5_ex : List (Nat × List Slot) := [(0, L_impl_orders_5_e0)]
abbrev L_impl_orders_5_rt : List Slot := [.junk, .junk, .junk, .junk, .junk, .junk, .junk, .junk, .junk, .junk, .junk, .junk, .junk, .junk, .junk, .junk, .junk, .junk, .junk, .junk, .junk, .junk, .junk, .junk, .junk, .junk, .junk, .junk, .junk, .junk, .junk, .junk, .junk]

def L_impl_orders_5_b (Φ : Post) (u : (Int × Value × Int)) (N : (Int × Value × Int) → (Value × Int) → World → Prop) (s : (Value × Int)) (w : World) : Prop :=
  B_impl_orders_5 u.1 u.2.1 u.2.2 s.1 s.2 N (fun v w => ∀ j : Nat → Value, Φ (.exit 0) (mkT j 0 L_impl_orders_5_e0 v) w) w

theorem L_impl_orders_5_eq (j : Nat → Value) (u : (Int × Value × Int)) (s : (Value × Int)) (N : (Int × Value × Int) → (Value × Int) → World → Prop) (D0 : (Value × Unit) → World → Prop) (R : (Unit) → World → Prop) (w : World) :
    W Try.prog ty (fun _ _ _ _ => False) (loopAt Try.f49 5) (loopPost L_impl_orders_5_sp [(0, (⟨L_impl_orders_5_e0, D0⟩ : Door))] ⟨L_impl_orders_5_rt, R⟩ (fun v w => N ((fun v => (v.1, v.2.1, v.2.2.2.1)) v) ((fun v => (v.2.2.1, v.2.2.2.2.1)) v) w)) (mkT j 0 L_impl_orders_5_sp ((fun u s => (u.1, u.2.1, s.1, u.2.2, s.2, ())) u s)) w =
    B_impl_orders_5 u.1 u.2.1 u.2.2 s.1 s.2 N D0 w := by
  kernel_rfl

def O_impl_orders_1 : Code → Post → List SV → World → Prop :=
  orc 5 (loopAt Try.f49 5) L_impl_orders_5_sp (fun Φ fr w => LOOP (U := (Int × Value × Int)) (S := (Value × Int)) ((fun v => (v.1, v.2.1, v.2.2.2.1)) (extT L_impl_orders_5_sp fr)) (L_impl_orders_5_b Φ ((fun v => (v.1, v.2.1, v.2.2.2.1)) (extT L_impl_orders_5_sp fr))) ((fun v => (v.2.2.1, v.2.2.2.2.1)) (extT L_impl_orders_5_sp fr)) w) (fun _ _ _ _ => False)

theorem O_impl_orders_1_ok : Sound Try.prog O_impl_orders_1 :=
  orc_ok (sound_none _) fun Φ fr w hs h => loop_ok (ty := ty) follows (sound_none _) L_impl_orders_5_sp (fun v => (v.1, v.2.1, v.2.2.2.1)) (fun v => (v.2.2.1, v.2.2.2.2.1)) (fun u s => (u.1, u.2.1, s.1, u.2.2, s.2, ())) (fun _ => rfl) L_impl_orders_5_ex L_impl_orders_5_rt (body := L_impl_orders_5_b Φ) (fun j u s w N hb => by
    have e := L_impl_orders_5_eq j u s N (doorOf Φ (.exit 0) L_impl_orders_5_e0).D (doorOf Φ .ret L_impl_orders_5_rt).D w
    exact Eq.mpr e hb) hs h

def V_impl_orders (n0 : Int) (list1 : Value) (w : World) (K : Value → World → Prop) : Prop :=
  (Fc Try.prog 63 #[list1] w (.one (.int .i64)) fun (x8_2 : Int) w_1 => (((x8_2 == n0) = true → (Pr Try.prog (Instr.buildSlice 55 1 #[(0, list1)]) w_1 (.one .any) fun (x12_4 : Value) w_3 => K (x12_4 : Value) w_3)) ∧ ((x8_2 == n0) = false → (Pr Try.prog (Instr.buildSlice 55 0 #[]) w_1 (.one .any) fun (x13_6 : Value) w_5 => (At (loopAt Try.f49 5) (loopAt Try.f49 5) (LOOP (U := (Int × Value × Int)) (S := (Value × Int)) (n0, (list1 : Value), n0) (fun N_22 s_23 w_24 => B_impl_orders_5 n0 (list1 : Value) n0 s_23.1 s_23.2 N_22 (fun (v_19 : (Value × Unit)) w_20 => ∀ _j_21 : Nat → Value, K (v_19.1 : Value) w_20) w_24) ((x13_6 : Value), (0 : Int)) w_5))))))

theorem eq_impl_orders (n0 : Int) (list1 : Value) (w : World) (K : Value → World → Prop) :
    W Try.prog ty O_impl_orders_1 (bodyOf Try.f49) (fnPost Try.prog Try.f49.results.toList (.one .any) K) (frame0 [(.int .i64 n0), list1] 33) w = V_impl_orders n0 list1 w K := by
  kernel_rfl

theorem body_impl_orders : Try.f49.body = some (bodyOf Try.f49) := by kernel_rfl
theorem name_impl_orders : (Try.f49.name == "runtime.NumGoroutine") = false := by kernel_rfl

theorem walk_impl_orders (n0 : Int) (list1 : Value) {w : World} {K : Value → World → Prop} (h : V_impl_orders n0 list1 w K) : Fc Try.prog 49 #[(.int .i64 n0), list1] w (.one .any) K :=
  fn_ok follows O_impl_orders_1_ok Try.func49 name_impl_orders body_impl_orders Try.ntmps49 [(.int .i64 n0), list1] (Eq.mpr (eq_impl_orders n0 list1 w K) h)

-- uses S9Met
theorem c_impl_orders {n : Nat} (hn : 1 ≤ n) (hn7 : n ≤ 7) : ∀ (f : Nat) (l : List Int) (v : Value) (B : Nat) (w : World) (K : Value → World → Prop), l.length + f = n → B ≤ w.heap.size → MyI B w.heap.size w v l →
    (∀ u w' b, w.heap.size ≤ b → Below w.heap.size w w' → MySS B b w' u (ordF n f l) → K u w') → Fc Try.prog F_impl_orders #[.int .i64 (n : Int), v] w (.one .any) K
  | f, l, v, B, w, K, hlen, hB, hv, hK => by
    refine walk_impl_orders _ _ (c_impl_sizeS hv.sl ⟨fun he => ?_, fun hne => ?_⟩)
    · have he := eq_t he
      have hf : f = 0 := by omega
      subst hf
      rcases hv with ⟨_, ⟨_, rfl⟩ | ⟨c, hc, _, ho⟩⟩
      · simp at hlen; omega
      · exact oneSS ho hc fun u w' b hb q h => hK u w' b hb q h
    · have hne := eq_f hne
      match f, hlen, hK with
      | 0, hlen, _ => omega
      | f + 1, hlen, hK =>
        have hpow : n ^ f ≤ 7 ^ 7 := Nat.le_trans (Nat.pow_le_pow_left hn7 f) (Nat.pow_le_pow_right (by omega) (by omega))
        refine nilSS fun b0 v0 w1 hb0 q1 _ h0 => ?_
        rw [ordF_succ] at hK
        refine lp (fun s w' => Below w.heap.size w w' ∧ ∃ (i b : Nat), s.2 = i ∧ i ≤ n ∧ w.heap.size ≤ b ∧ MySS B b w' s.1 (ordR n f l i)) (fun s _ => (17 - s.2).toNat) ⟨q1, 0, b0, rfl, by omega, hb0, h0.mono (by omega)⟩ ?_
        rintro ⟨u, t⟩ w2 N ⟨q2, i, b, hi, hin, hb, hu⟩ hN
        simp only at hi hu
        subst hi
        unfold B_impl_orders_5
        dsimp only
        have hs2 := q2.size
        have hv2 := (hv.keep q2).mono (Nat.le_refl _) hs2
        have hrl := ordR_len n f l i
        refine ⟨fun hlt => ?_, fun hge => ?_⟩
        · have hlt := dec_t hlt
          refine c_slices_Contains_int64_int64 hv2.sl ⟨fun hno => ?_, fun hyes => ?_⟩
          · have hno : (i : Int) ∉ l := by simpa using not_t hno
            refine c_slices_Clone_int64_int64 hv2.sl (by omega) fun x w3 q3 hx => ?_
            have hs3 := q3.size
            refine hx.app hs3 (by omega) fun x' w4 q4 hx' => ?_
            have q24 : Below w2.heap.size w2 w4 := q3.trans q4
            have hs4 := q24.size
            refine c_impl_orders hn hn7 f (l ++ [(i : Int)]) x' B w4 _ (by simp; omega) (by omega) (hx'.mono (by omega) (Nat.le_refl _)) fun y w5 b5 hb5 q5 hy => ?_
            have q25 := q24.trans (q5.mono hs4)
            have hyl := ordF_len n f (l ++ [(i : Int)])
            have hil : i * n ^ f ≤ 7 * 7 ^ 7 := Nat.mul_le_mul (by omega) hpow
            refine appsSS (hu.keep q25) hy (by omega) fun u' w6 b6 hu' m6 hb6 => ?_
            have hs5 := q25.size
            rw [wrap_small (by omega) (by omega)]
            refine hN _ _ ⟨(q2.trans (q25.mono hs2)).trans (m6.below (by omega) (by simp; omega)), i + 1, b6, by simp only; omega, by omega, by omega, ?_⟩ (by simp only; omega)
            rw [ordR_go hno]
            exact hu'
          · have hyes : (i : Int) ∈ l := by simpa using not_f hyes
            rw [wrap_small (by omega) (by omega)]
            refine hN _ _ ⟨q2, i + 1, b, by simp only; omega, by omega, hb, ?_⟩ (by simp only; omega)
            rw [ordR_skip hyes]
            exact hu
        · have hge := dec_f hge
          have : i = n := by omega
          subst this
          intro _
          exact hK u w2 b hb q2 hu

end Go.Proofs.Ytdkodhonaoecnaa
