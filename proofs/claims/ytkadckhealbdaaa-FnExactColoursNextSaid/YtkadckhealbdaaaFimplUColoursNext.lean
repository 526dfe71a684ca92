/- The reading of impl_ColoursNext, and its contract. No condition. -/
import Derived.Test.YtkadckhealbdaaaTy
import Derived.Test.YtkadckhealbdaaaS8App
import Derived.Test.YtkadckhealbdaaaFimplUfaults
import Derived.Test.YtkadckhealbdaaaFimplUgoesOn
import Derived.Test.YtkadckhealbdaaaFimplUpartCode
import Derived.Test.YtkadckhealbdaaaFslicesUCloneUint64Uint64
namespace Go.Proofs.Ytkadckhealbdaaa
open Go Go.RowKit Eng Mem
set_option linter.unusedVariables false
set_option maxRecDepth 100000
def B_impl_ColoursNext_7 (part1 : Value) (kind2 : Int) (x28 : Int) (out8 : Value) (x29 : Int) (N : (Value × Int × Int) → (Value × Int) → World → Prop) (D1 : (Value × Unit) → World → Prop) (w : World) : Prop :=
  (((decide (x29 < x28)) = true → (Fc Try.prog 64 #[part1] w (.one .any) fun (x33_10 : Value) w_9 => (Pr Try.prog (Instr.buildSlice 31 1 #[(0, (.int .i64 x29))]) w_9 (.one .any) fun (x35_12 : Value) w_11 => (Pr Try.prog (Builtin.append_ #[31, 31] 31 #[x33_10, x35_12]) w_11 (.one .any) fun (x36_14 : Value) w_13 => (Fc Try.prog 63 #[x36_14, (.int .i64 kind2)] w_13 (.one .bool) fun (x38_16 : Bool) w_15 => ((x38_16 = true → (Pr Try.prog (Instr.buildSlice 31 1 #[(0, (.int .i64 x29))]) w_15 (.one .any) fun (x41_18 : Value) w_17 => (Pr Try.prog (Builtin.append_ #[31, 31] 31 #[out8, x41_18]) w_17 (.one .any) fun (x42_20 : Value) w_19 => N ((part1 : Value), kind2, x28) ((x42_20 : Value), (IntKind.i64.wrap (x29 + (1 : Int)))) w_19))) ∧ (x38_16 = false → N ((part1 : Value), kind2, x28) ((out8 : Value), (IntKind.i64.wrap (x29 + (1 : Int)))) w_15))))))) ∧ ((decide (x29 < x28)) = false → D1 ((out8 : Value), ()) w))

abbrev L_impl_ColoursNext_7_e1 : List Slot := [.junk, .junk, .junk, .junk, .junk, .junk, .junk, .junk, .k .any, .junk, .junk, .junk, .junk, .junk, .junk, .junk, .junk, .junk, .junk, .junk, .junk, .junk, .junk, .junk, .junk, .junk, .junk, .junk, .junk, .junk, .junk, .junk, .junk, .junk, .junk, .junk, .junk, .junk, .junk, .junk, .junk, .junk, .junk, .junk, .junk]

abbrev L_impl_ColoursNext_7_sp : List Slot := [.junk, .k .any, .k (.int .i64), .junk, .junk, .junk, .junk, .junk, .k .any, .junk, .junk, .junk, .junk, .junk, .junk, .junk, .junk, .junk, .junk, .junk, .junk, .junk, .junk, .junk, .junk, .junk, .junk, .junk, .k (.int .i64), .k (.int .i64), .junk, .junk, .junk, .junk, .junk, .junk, .junk, .junk, .junk, .junk, .junk, .junk, .junk, .junk, .junk]
abbrev L_impl_ColoursNext_7_ex : List (Nat × List Slot) := [(1, L_impl_ColoursNext_7_e1)]
abbrev L_impl_ColoursNext_7_rt : List Slot := [.junk, .junk, .junk, .junk, .junk, .junk, .junk, .junk, .junk, .junk, .junk, .junk, .junk, .junk, .junk, .junk, .junk, .junk, .junk, .junk, .junk, .junk, .junk, .junk, .junk, .junk, .junk, .junk, .junk, .junk, .junk, .junk, .junk, .junk, .junk, .junk, .junk, .junk, .junk, .junk, .junk, .junk, .junk, .junk, .junk]

def L_impl_ColoursNext_7_b (Φ : Post) (u : (Value × Int × Int)) (N : (Value × Int × Int) → (Value × Int) → World → Prop) (s : (Value × Int)) (w : World) : Prop :=
  B_impl_ColoursNext_7 u.1 u.2.1 u.2.2 s.1 s.2 N (fun v w => ∀ j : Nat → Value, Φ (.exit 1) (mkT j 0 L_impl_ColoursNext_7_e1 v) w) w

theorem L_impl_ColoursNext_7_eq (j : Nat → Value) (u : (Value × Int × Int)) (s : (Value × Int)) (N : (Value × Int × Int) → (Value × Int) → World → Prop) (D1 : (Value × Unit) → World → Prop) (R : (Unit) → World → Prop) (w : World) :
    W Try.prog ty (fun _ _ _ _ => False) (loopAt Try.f25 7) (loopPost L_impl_ColoursNext_7_sp [(1, (⟨L_impl_ColoursNext_7_e1, D1⟩ : Door))] ⟨L_impl_ColoursNext_7_rt, R⟩ (fun v w => N ((fun v => (v.1, v.2.1, v.2.2.2.1)) v) ((fun v => (v.2.2.1, v.2.2.2.2.1)) v) w)) (mkT j 0 L_impl_ColoursNext_7_sp ((fun u s => (u.1, u.2.1, s.1, u.2.2, s.2, ())) u s)) w =
    B_impl_ColoursNext_7 u.1 u.2.1 u.2.2 s.1 s.2 N D1 w := by
  kernel_rfl

def O_impl_ColoursNext_1 : Code → Post → List SV → World → Prop :=
  orc 7 (loopAt Try.f25 7) L_impl_ColoursNext_7_sp (fun Φ fr w => LOOP (U := (Value × Int × Int)) (S := (Value × Int)) ((fun v => (v.1, v.2.1, v.2.2.2.1)) (extT L_impl_ColoursNext_7_sp fr)) (L_impl_ColoursNext_7_b Φ ((fun v => (v.1, v.2.1, v.2.2.2.1)) (extT L_impl_ColoursNext_7_sp fr))) ((fun v => (v.2.2.1, v.2.2.2.2.1)) (extT L_impl_ColoursNext_7_sp fr)) w) (fun _ _ _ _ => False)

theorem O_impl_ColoursNext_1_ok : Sound Try.prog O_impl_ColoursNext_1 :=
  orc_ok (sound_none _) fun Φ fr w hs h => loop_ok (ty := ty) follows (sound_none _) L_impl_ColoursNext_7_sp (fun v => (v.1, v.2.1, v.2.2.2.1)) (fun v => (v.2.2.1, v.2.2.2.2.1)) (fun u s => (u.1, u.2.1, s.1, u.2.2, s.2, ())) (fun _ => rfl) L_impl_ColoursNext_7_ex L_impl_ColoursNext_7_rt (body := L_impl_ColoursNext_7_b Φ) (fun j u s w N hb => by
    have e := L_impl_ColoursNext_7_eq j u s N (doorOf Φ (.exit 1) L_impl_ColoursNext_7_e1).D (doorOf Φ .ret L_impl_ColoursNext_7_rt).D w
    exact Eq.mpr e hb) hs h

def V_impl_ColoursNext (k0 : Int) (part1 : Value) (kind2 : Int) (w : World) (K : (Value × Int) → World → Prop) : Prop :=
  (Fc Try.prog 61 #[(.int .i64 k0), part1, (.int .i64 kind2)] w (.one (.int .i64)) fun (x14_2 : Int) w_1 => (((x14_2 != (0 : Int)) = true → K (((.slice none 0 0) : Value), (2 : Int)) w_1) ∧ ((x14_2 != (0 : Int)) = false → (QAll Try.prog (Builtin.len_ #[31] 3 #[part1]) (.int .i64) fun (x18_3 : Int) => (((x18_3 == (40 : Int)) = true → K (((.slice none 0 0) : Value), (2 : Int)) w_1) ∧ ((x18_3 == (40 : Int)) = false → (Fc Try.prog 62 #[part1, (.int .i64 kind2)] w_1 (.one .any) fun (x24_5 : Value) w_4 => (QAll Try.prog (Builtin.len_ #[68] 3 #[x24_5]) (.int .i64) fun (x25_6 : Int) => (((decide (x25_6 > (0 : Int))) = true → K (((.slice none 0 0) : Value), (5 : Int)) w_4) ∧ ((decide (x25_6 > (0 : Int))) = false → (Pr Try.prog (Instr.buildSlice 31 0 #[]) w_4 (.one .any) fun (x27_8 : Value) w_7 => (At (loopAt Try.f25 7) (loopAt Try.f25 7) (LOOP (U := (Value × Int × Int)) (S := (Value × Int)) ((part1 : Value), kind2, k0) (fun N_24 s_25 w_26 => B_impl_ColoursNext_7 (part1 : Value) kind2 k0 s_25.1 s_25.2 N_24 (fun (v_21 : (Value × Unit)) w_22 => ∀ _j_23 : Nat → Value, K ((v_21.1 : Value), (0 : Int)) w_22) w_26) ((x27_8 : Value), (0 : Int)) w_7)))))))))))))

theorem eq_impl_ColoursNext (k0 : Int) (part1 : Value) (kind2 : Int) (w : World) (K : (Value × Int) → World → Prop) :
    W Try.prog ty O_impl_ColoursNext_1 (bodyOf Try.f25) (fnPost Try.prog Try.f25.results.toList (.two .any (.int .i64)) K) (frame0 [(.int .i64 k0), part1, (.int .i64 kind2)] 45) w = V_impl_ColoursNext k0 part1 kind2 w K := by
  kernel_rfl

theorem body_impl_ColoursNext : Try.f25.body = some (bodyOf Try.f25) := by kernel_rfl
theorem name_impl_ColoursNext : (Try.f25.name == "runtime.NumGoroutine") = false := by kernel_rfl

theorem walk_impl_ColoursNext (k0 : Int) (part1 : Value) (kind2 : Int) {w : World} {K : (Value × Int) → World → Prop} (h : V_impl_ColoursNext k0 part1 kind2 w K) : Fc Try.prog 25 #[(.int .i64 k0), part1, (.int .i64 kind2)] w (.two .any (.int .i64)) K :=
  fn_ok follows O_impl_ColoursNext_1_ok Try.func25 name_impl_ColoursNext body_impl_ColoursNext Try.ntmps25 [(.int .i64 k0), part1, (.int .i64 kind2)] (Eq.mpr (eq_impl_ColoursNext k0 part1 kind2 w K) h)

-- uses S8App
theorem c_impl_ColoursNext {k kind : Int} {a : Value} {l : List Int} {w : World} {K : Value × Int → World → Prop} (_ : I64 k) (ha : ArgI w a l) (_ : I64 kind)
    (hK : ∀ w' v, Below w.heap.size w w' → MyI w.heap.size w'.heap.size w' v (nextOf k l kind).1 → K (v, (nextOf k l kind).2) w') : Fc Try.prog F_impl_ColoursNext #[.int .i64 k, a, .int .i64 kind] w (.two .any (.int .i64)) K := by
  unfold nextOf at hK
  refine walk_impl_ColoursNext _ _ _ (c_impl_partCode ha.sl fun w1 hb1 => ?_)
  have h1 := ha.sl.keep hb1
  have hs1 := hb1.size
  by_cases h : IsPart k l ∧ 0 ≤ kind ∧ kind ≤ 2
  case neg =>
    rw [if_neg h] at hK ⊢
    exact ⟨fun _ => hK w1 _ hb1 (myI_nil _ _ _), fun e => absurd (ne_f e) (by omega)⟩
  rw [if_pos h] at hK ⊢
  have hl := h.1.2.2.1; have k0 := h.1.1; have k3 := h.1.2.1
  refine ⟨fun e => absurd rfl (ne_t e), fun _ => lenI h1 ⟨fun e => ?_, fun e => ?_⟩⟩
  · rw [if_pos (by have := eq_t e; omega)] at hK
    exact hK w1 _ hb1 (myI_nil _ _ _)
  have e := eq_f e
  rw [if_neg (by omega)] at hK
  refine c_impl_faults h1 (by omega) h.2 fun w2 v b hb2 hB hm => hm.len_eq ?_
  have q2 := hb1.trans (hb2.mono hs1)
  have hs2 := q2.size
  refine ⟨fun e2 => ?_, fun e2 => ?_⟩
  · rw [if_neg (fun hh => by have := dec_t e2; rw [hh] at this; simp at this)] at hK
    exact hK w2 _ q2 (myI_nil _ _ _)
  have hnil : faR l kind 0 l.length = [] := List.eq_nil_of_length_eq_zero (by have := dec_f e2; omega)
  rw [if_pos hnil] at hK
  refine nilI fun b v w3 hb3 hbel ho => ?_
  refine lp (fun s w' => 0 ≤ s.2 ∧ s.2 ≤ k ∧ Below w2.heap.size w2 w' ∧ ∃ b, w2.heap.size ≤ b ∧ OwnI w' b s.1 (nextL l kind s.2.toNat)) (fun s _ => (k - s.2).toNat) ⟨by simp, by simp; omega, hbel, b, by omega, ho⟩ ?_
  rintro ⟨v, c⟩ w4 N ⟨c0, c1, hb4, b4, hbb4, hO⟩ hN
  simp only at c0 c1 hO
  unfold B_impl_ColoursNext_7
  have h4 := (h1.keep hb2).keep hb4
  have hs4 := hb4.size
  refine ⟨fun hlt => ?_, fun hge => ?_⟩
  · have hlt := dec_t hlt
    simp only at hlt
    have hnl := nextL_len l kind c.toNat
    have hL : (l ++ [c]).length = l.length + 1 := by simp
    refine c_slices_Clone_int64_int64 h4 (by omega) fun x w5 hb5 hx => ?_
    have hs5 := hb5.size
    refine hx.app hs5 (by omega) fun x' w6 hb6 hx' => ?_
    have q6 := hb5.trans hb6
    have hs6 := q6.size
    refine c_impl_goesOn hx'.sl (by rw [hL]; omega) h.2 fun w7 hb7 => ?_
    have q7 := q6.trans (hb7.mono hs6)
    have hO7 := hO.keep q7
    have hc : (c.toNat : Int) = c := by omega
    have hsucc := nextL_succ l kind c.toNat
    rw [hc] at hsucc
    rw [hL, show ((l.length + 1 : Nat) : Int) = (l.length : Int) + 1 from by omega, show l.length + 1 - 1 = l.length from by omega]
    have q47 := hb4.trans (q7.mono hs4)
    refine ⟨fun hg => ?_, fun hg => ?_⟩
    · rw [if_pos (dec_t hg)] at hsucc
      refine appI hO7 (by omega) fun v' w8 b8 o8 m8 hb8 => ?_
      simp only
      rw [wrap_small (by omega) (by omega)]
      have hs7 := q7.size
      refine hN _ _ ⟨by simp; omega, by simp; omega, q47.trans (m8.below (by omega) (by simp; omega)), b8, by omega, ?_⟩ (by simp; omega)
      simp only
      rw [show (c + 1).toNat = c.toNat + 1 from by omega, hsucc]
      exact o8
    · rw [if_neg (dec_f hg), List.append_nil] at hsucc
      simp only
      rw [wrap_small (by omega) (by omega)]
      refine hN _ _ ⟨by simp; omega, by simp; omega, q47, b4, hbb4, ?_⟩ (by simp; omega)
      simp only
      rw [show (c + 1).toNat = c.toNat + 1 from by omega, hsucc]
      exact hO7
  · have hge := dec_f hge
    simp only at hge
    intro _
    have : c = k := by omega
    subst this
    have hnl := nextL_len l kind c.toNat
    exact hK w4 v (q2.trans (hb4.mono hs2)) (own_my hO (by show (nextL l kind c.toNat).length ≤ _; omega) (by omega) hO.lt)

end Go.Proofs.Ytkadckhealbdaaa
