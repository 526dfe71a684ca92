/- Texts that the law FnSumParts needs, joined. No condition. -/
import Derived.Test.YtlbhpbaeokgmaaaKFnSumParts2
set_option linter.all false
/- The reading of spec_l07Next, and its contract. No condition. -/
namespace Go.Proofs.Ytlbhpbaeokgmaaa
open Go Go.RowKit Eng Mem
set_option linter.unusedVariables false
set_option maxRecDepth 100000
def B_spec_l07Next_3 (k0 : Int) (part1 : Value) (kind2 : Int) (out7 : Value) (c8 : Int) (N : (Int × Value × Int) → (Value × Int) → World → Prop) (D0 : (Value × Unit) → World → Prop) (w : World) : Prop :=
  (((decide (c8 < k0)) = true → (Fc Try.prog 74 #[part1] w (.one .any) fun (x16_4 : Value) w_3 => (Pr Try.prog (Instr.buildSlice 24 1 #[(0, (.int .i64 c8))]) w_3 (.one .any) fun (x18_6 : Value) w_5 => (Pr Try.prog (Builtin.append_ #[24, 24] 24 #[x16_4, x18_6]) w_5 (.one .any) fun (x19_8 : Value) w_7 => (QAll Try.prog (Builtin.len_ #[24] 3 #[part1]) (.int .i64) fun (x22_9 : Int) => (Fc Try.prog 39 #[x19_8, (.int .i64 kind2), (.int .i64 (IntKind.i64.wrap (x22_9 + (1 : Int))))] w_7 (.one .any) fun (x24_11 : Value) w_10 => (QAll Try.prog (Builtin.len_ #[24] 3 #[x24_11]) (.int .i64) fun (x25_12 : Int) => (((x25_12 == (0 : Int)) = true → (Pr Try.prog (Instr.buildSlice 24 1 #[(0, (.int .i64 c8))]) w_10 (.one .any) fun (x29_14 : Value) w_13 => (Pr Try.prog (Builtin.append_ #[24, 24] 24 #[out7, x29_14]) w_13 (.one .any) fun (x30_16 : Value) w_15 => N (k0, (part1 : Value), kind2) ((x30_16 : Value), (IntKind.i64.wrap (c8 + (1 : Int)))) w_15))) ∧ ((x25_12 == (0 : Int)) = false → N (k0, (part1 : Value), kind2) ((out7 : Value), (IntKind.i64.wrap (c8 + (1 : Int)))) w_10))))))))) ∧ ((decide (c8 < k0)) = false → D0 ((out7 : Value), ()) w))

abbrev L_spec_l07Next_3_e0 : List Slot := [.junk, .junk, .junk, .junk, .junk, .junk, .junk, .k .any, .junk, .junk, .junk, .junk, .junk, .junk, .junk, .junk, .junk, .junk, .junk, .junk, .junk, .junk, .junk, .junk, .junk, .junk, .junk, .junk, .junk, .junk, .junk, .junk]

abbrev L_spec_l07Next_3_sp : List Slot := [.k (.int .i64), .k .any, .k (.int .i64), .junk, .junk, .junk, .junk, .k .any, .k (.int .i64), .junk, .junk, .junk, .junk, .junk, .junk, .junk, .junk, .junk, .junk, .junk, .junk, .junk, .junk, .junk, .junk, .junk, .junk, .junk, .junk, .junk, .junk, .junk]
abbrev L_spec_l07Next_3_ex : List (Nat × List Slot) := [(0, L_spec_l07Next_3_e0)]
abbrev L_spec_l07Next_3_rt : List Slot := [.junk, .junk, .junk, .junk, .junk, .junk, .junk, .junk, .junk, .junk, .junk, .junk, .junk, .junk, .junk, .junk, .junk, .junk, .junk, .junk, .junk, .junk, .junk, .junk, .junk, .junk, .junk, .junk, .junk, .junk, .junk, .junk]

def L_spec_l07Next_3_b (Φ : Post) (u : (Int × Value × Int)) (N : (Int × Value × Int) → (Value × Int) → World → Prop) (s : (Value × Int)) (w : World) : Prop :=
  B_spec_l07Next_3 u.1 u.2.1 u.2.2 s.1 s.2 N (fun v w => ∀ j : Nat → Value, Φ (.exit 0) (mkT j 0 L_spec_l07Next_3_e0 v) w) w

theorem L_spec_l07Next_3_eq (j : Nat → Value) (u : (Int × Value × Int)) (s : (Value × Int)) (N : (Int × Value × Int) → (Value × Int) → World → Prop) (D0 : (Value × Unit) → World → Prop) (R : (Unit) → World → Prop) (w : World) :
    W Try.prog ty (fun _ _ _ _ => False) (loopAt Try.f44 3) (loopPost L_spec_l07Next_3_sp [(0, (⟨L_spec_l07Next_3_e0, D0⟩ : Door))] ⟨L_spec_l07Next_3_rt, R⟩ (fun v w => N ((fun v => (v.1, v.2.1, v.2.2.1)) v) ((fun v => (v.2.2.2.1, v.2.2.2.2.1)) v) w)) (mkT j 0 L_spec_l07Next_3_sp ((fun u s => (u.1, u.2.1, u.2.2, s.1, s.2, ())) u s)) w =
    B_spec_l07Next_3 u.1 u.2.1 u.2.2 s.1 s.2 N D0 w := by
  kernel_rfl

def O_spec_l07Next_1 : Code → Post → List SV → World → Prop :=
  orc 3 (loopAt Try.f44 3) L_spec_l07Next_3_sp (fun Φ fr w => LOOP (U := (Int × Value × Int)) (S := (Value × Int)) ((fun v => (v.1, v.2.1, v.2.2.1)) (extT L_spec_l07Next_3_sp fr)) (L_spec_l07Next_3_b Φ ((fun v => (v.1, v.2.1, v.2.2.1)) (extT L_spec_l07Next_3_sp fr))) ((fun v => (v.2.2.2.1, v.2.2.2.2.1)) (extT L_spec_l07Next_3_sp fr)) w) (fun _ _ _ _ => False)

theorem O_spec_l07Next_1_ok : Sound Try.prog O_spec_l07Next_1 :=
  orc_ok (sound_none _) fun Φ fr w hs h => loop_ok (ty := ty) follows (sound_none _) L_spec_l07Next_3_sp (fun v => (v.1, v.2.1, v.2.2.1)) (fun v => (v.2.2.2.1, v.2.2.2.2.1)) (fun u s => (u.1, u.2.1, u.2.2, s.1, s.2, ())) (fun _ => rfl) L_spec_l07Next_3_ex L_spec_l07Next_3_rt (body := L_spec_l07Next_3_b Φ) (fun j u s w N hb => by
    have e := L_spec_l07Next_3_eq j u s N (doorOf Φ (.exit 0) L_spec_l07Next_3_e0).D (doorOf Φ .ret L_spec_l07Next_3_rt).D w
    exact Eq.mpr e hb) hs h

def V_spec_l07Next (k0 : Int) (part1 : Value) (kind2 : Int) (w : World) (K : Value → World → Prop) : Prop :=
  (Pr Try.prog (Instr.buildSlice 24 0 #[]) w (.one .any) fun (x9_2 : Value) w_1 => (At (loopAt Try.f44 3) (loopAt Try.f44 3) (LOOP (U := (Int × Value × Int)) (S := (Value × Int)) (k0, (part1 : Value), kind2) (fun N_20 s_21 w_22 => B_spec_l07Next_3 k0 (part1 : Value) kind2 s_21.1 s_21.2 N_20 (fun (v_17 : (Value × Unit)) w_18 => ∀ _j_19 : Nat → Value, K (v_17.1 : Value) w_18) w_22) ((x9_2 : Value), (0 : Int)) w_1)))

theorem eq_spec_l07Next (k0 : Int) (part1 : Value) (kind2 : Int) (w : World) (K : Value → World → Prop) :
    W Try.prog ty O_spec_l07Next_1 (bodyOf Try.f44) (fnPost Try.prog Try.f44.results.toList (.one .any) K) (frame0 [(.int .i64 k0), part1, (.int .i64 kind2)] 32) w = V_spec_l07Next k0 part1 kind2 w K := by
  kernel_rfl

theorem body_spec_l07Next : Try.f44.body = some (bodyOf Try.f44) := by kernel_rfl
theorem name_spec_l07Next : (Try.f44.name == "runtime.NumGoroutine") = false := by kernel_rfl

theorem walk_spec_l07Next (k0 : Int) (part1 : Value) (kind2 : Int) {w : World} {K : Value → World → Prop} (h : V_spec_l07Next k0 part1 kind2 w K) : Fc Try.prog 44 #[(.int .i64 k0), part1, (.int .i64 kind2)] w (.one .any) K :=
  fn_ok follows O_spec_l07Next_1_ok Try.func44 name_spec_l07Next body_spec_l07Next Try.ntmps44 [(.int .i64 k0), part1, (.int .i64 kind2)] (Eq.mpr (eq_spec_l07Next k0 part1 kind2 w K) h)

-- uses S8Next
theorem c_spec_l07Next {a : Value} {l : List Int} {k kind : Int} {w : World} {K : Value → World → Prop} (h : SlI w a l) (hl : l.length ≤ 40) (k0 : 0 ≤ k) (k1 : k ≤ 3)
    (hK : ∀ w' v b, w.heap.size ≤ b → Below w.heap.size w w' → OwnI w' b v (nextL l kind k.toNat) → K v w') : Fc Try.prog F_spec_l07Next #[.int .i64 k, a, .int .i64 kind] w (.one .any) K := by
  refine walk_spec_l07Next _ _ _ (nilI fun b v w1 hb hbel ho => ?_)
  refine lp (fun s w' => 0 ≤ s.2 ∧ s.2 ≤ k ∧ Below w.heap.size w w' ∧ ∃ b, w.heap.size ≤ b ∧ OwnI w' b s.1 (nextL l kind s.2.toNat)) (fun s _ => (k - s.2).toNat) ⟨by simp, by simpa using k0, hbel, b, by omega, ho⟩ ?_
  rintro ⟨v, c⟩ w2 N ⟨c0, c1, hb2, b2, hb2', hO⟩ hN
  simp only at c0 c1 hO
  unfold B_spec_l07Next_3
  refine ⟨fun hlt => ?_, fun hge => ?_⟩
  · have hlt := dec_t hlt
    simp only at hlt
    have hs2 := hb2.size
    have hnl := nextL_len l kind c.toNat
    refine c_spec_l01Own (h.keep hb2) (by omega) fun w3 x b3 hb3 q3 o3 => appI o3 (by omega) fun x' w4 b4 o4 m4 hb4 => ?_
    have hs3 := q3.size
    have q4 : Below w2.heap.size w2 w4 := q3.trans (m4.below (by omega) (by simp; omega))
    have hb24 := hb2.trans (q4.mono hs2)
    refine lenI (h.keep hb24) ?_
    rw [wrap_small (by omega) (by omega)]
    have hL : (l ++ [c]).length = l.length + 1 := by simp
    refine c_spec_l07Fault (own_slI o4 (by rw [hL]; omega)) (by rw [hL]; omega) (by omega) (by rw [hL]; omega) fun w5 y q5 hy => lenI hy.sl ?_
    have q25 := q4.trans (q5.mono q4.size)
    have hb25 := hb2.trans (q25.mono hs2)
    have hO5 := hO.keep q25
    have hc : (c.toNat : Int) = c := by omega
    have hsucc := nextL_succ l kind c.toNat
    rw [hc] at hsucc
    have hfa : faR (l ++ [c]) kind ((l.length : Int) + 1 - 1).toNat ((l ++ [c]).length + 1 - ((l.length : Int) + 1)).toNat = fz3 (l ++ [c]) kind (l.length + 1) l.length := by
      rw [hL, show ((l.length : Int) + 1 - 1).toNat = l.length from by omega, show (((l.length + 1 : Nat) : Int) + 1 - ((l.length : Int) + 1)).toNat = 0 + 1 from by omega, faR_succ]
      simp [faR]
    rw [hfa]
    by_cases he : fz (l ++ [c]) kind (l.length + 1) l.length = []
    · rw [if_pos he] at hsucc
      have e0 : (fz3 (l ++ [c]) kind (l.length + 1) l.length).headD [] = [] := by unfold fz3; rw [he]; rfl
      rw [e0]
      refine ⟨fun _ => appI hO5 (by omega) fun v' w6 b6 o6 m6 hb6 => ?_, fun hn => absurd rfl (eq_f hn)⟩
      simp only
      rw [wrap_small (by omega) (by omega)]
      have hs5 := hb25.size; have hs55 := q25.size
      refine hN _ _ ⟨by simp; omega, by simp; omega, hb25.trans (m6.below (by omega) (by simp; omega)), b6, by omega, ?_⟩ (by simp; omega)
      simp only
      rw [show (c + 1).toNat = c.toNat + 1 from by omega, hsucc]
      exact o6
    · rw [if_neg he, List.append_nil] at hsucc
      have e1 : ((fz3 (l ++ [c]) kind (l.length + 1) l.length).headD []).length = 3 := by
        unfold fz3
        cases hf : fz (l ++ [c]) kind (l.length + 1) l.length with
        | nil => exact absurd hf he
        | cons p r => rfl
      rw [e1]
      refine ⟨fun hn => absurd (eq_t hn) (by omega), fun _ => ?_⟩
      simp only
      rw [wrap_small (by omega) (by omega)]
      refine hN _ _ ⟨by simp; omega, by simp; omega, hb25, b2, hb2', ?_⟩ (by simp; omega)
      simp only
      rw [show (c + 1).toNat = c.toNat + 1 from by omega, hsucc]
      exact hO5
  · have hge := dec_f hge
    simp only at hge
    intro _
    have : c = k := by omega
    subst this
    exact hK w2 v b2 hb2' hb2 hO

end Go.Proofs.Ytlbhpbaeokgmaaa

/- The reading of spec_ColoursNext, and its contract. No condition. -/
namespace Go.Proofs.Ytlbhpbaeokgmaaa
open Go Go.RowKit Eng Mem
set_option linter.unusedVariables false
set_option maxRecDepth 100000
def V_spec_ColoursNext (k0 : Int) (part1 : Value) (kind2 : Int) (w : World) (K : (Value × Int) → World → Prop) : Prop :=
  (Fc Try.prog 38 #[(.int .i64 k0), part1, (.int .i64 kind2)] w (.one (.int .i64)) fun (x12_2 : Int) w_1 => (((x12_2 == (0 : Int)) = true → (QAll Try.prog (Builtin.len_ #[24] 3 #[part1]) (.int .i64) fun (x17_3 : Int) => (((x17_3 == (40 : Int)) = true → ((((2 : Int) != (0 : Int)) = true → K (((.slice none 0 0) : Value), (2 : Int)) w_1) ∧ (((2 : Int) != (0 : Int)) = false → (Fc Try.prog 39 #[part1, (.int .i64 kind2), (.int .i64 (1 : Int))] w_1 (.one .any) fun (x25_5 : Value) w_4 => (QAll Try.prog (Builtin.len_ #[24] 3 #[x25_5]) (.int .i64) fun (x26_6 : Int) => (((decide (x26_6 > (0 : Int))) = true → K (((.slice none 0 0) : Value), (5 : Int)) w_4) ∧ ((decide (x26_6 > (0 : Int))) = false → (Fc Try.prog 44 #[(.int .i64 k0), part1, (.int .i64 kind2)] w_4 (.one .any) fun (x31_8 : Value) w_7 => K ((x31_8 : Value), (0 : Int)) w_7)))))))) ∧ ((x17_3 == (40 : Int)) = false → (((x12_2 != (0 : Int)) = true → K (((.slice none 0 0) : Value), x12_2) w_1) ∧ ((x12_2 != (0 : Int)) = false → (Fc Try.prog 39 #[part1, (.int .i64 kind2), (.int .i64 (1 : Int))] w_1 (.one .any) fun (x25_10 : Value) w_9 => (QAll Try.prog (Builtin.len_ #[24] 3 #[x25_10]) (.int .i64) fun (x26_11 : Int) => (((decide (x26_11 > (0 : Int))) = true → K (((.slice none 0 0) : Value), (5 : Int)) w_9) ∧ ((decide (x26_11 > (0 : Int))) = false → (Fc Try.prog 44 #[(.int .i64 k0), part1, (.int .i64 kind2)] w_9 (.one .any) fun (x31_13 : Value) w_12 => K ((x31_13 : Value), (0 : Int)) w_12))))))))))) ∧ ((x12_2 == (0 : Int)) = false → (((x12_2 != (0 : Int)) = true → K (((.slice none 0 0) : Value), x12_2) w_1) ∧ ((x12_2 != (0 : Int)) = false → (Fc Try.prog 39 #[part1, (.int .i64 kind2), (.int .i64 (1 : Int))] w_1 (.one .any) fun (x25_15 : Value) w_14 => (QAll Try.prog (Builtin.len_ #[24] 3 #[x25_15]) (.int .i64) fun (x26_16 : Int) => (((decide (x26_16 > (0 : Int))) = true → K (((.slice none 0 0) : Value), (5 : Int)) w_14) ∧ ((decide (x26_16 > (0 : Int))) = false → (Fc Try.prog 44 #[(.int .i64 k0), part1, (.int .i64 kind2)] w_14 (.one .any) fun (x31_18 : Value) w_17 => K ((x31_18 : Value), (0 : Int)) w_17))))))))))

theorem eq_spec_ColoursNext (k0 : Int) (part1 : Value) (kind2 : Int) (w : World) (K : (Value × Int) → World → Prop) :
    W Try.prog ty (fun _ _ _ _ => False) (bodyOf Try.f15) (fnPost Try.prog Try.f15.results.toList (.two .any (.int .i64)) K) (frame0 [(.int .i64 k0), part1, (.int .i64 kind2)] 32) w = V_spec_ColoursNext k0 part1 kind2 w K := by
  kernel_rfl

theorem body_spec_ColoursNext : Try.f15.body = some (bodyOf Try.f15) := by kernel_rfl
theorem name_spec_ColoursNext : (Try.f15.name == "runtime.NumGoroutine") = false := by kernel_rfl

theorem walk_spec_ColoursNext (k0 : Int) (part1 : Value) (kind2 : Int) {w : World} {K : (Value × Int) → World → Prop} (h : V_spec_ColoursNext k0 part1 kind2 w K) : Fc Try.prog 15 #[(.int .i64 k0), part1, (.int .i64 kind2)] w (.two .any (.int .i64)) K :=
  fn_ok follows (sound_none _) Try.func15 name_spec_ColoursNext body_spec_ColoursNext Try.ntmps15 [(.int .i64 k0), part1, (.int .i64 kind2)] (Eq.mpr (eq_spec_ColoursNext k0 part1 kind2 w K) h)

-- uses S8App
theorem c_spec_ColoursNext {k kind : Int} {a : Value} {l : List Int} {w : World} {K : Value × Int → World → Prop} (_ : I64 k) (ha : ArgI w a l) (_ : I64 kind)
    (hK : ∀ w' v, Below w.heap.size w w' → MyI w.heap.size w'.heap.size w' v (nextOf k l kind).1 → K (v, (nextOf k l kind).2) w') : Fc Try.prog F_spec_ColoursNext #[.int .i64 k, a, .int .i64 kind] w (.two .any (.int .i64)) K := by
  unfold nextOf at hK
  refine walk_spec_ColoursNext _ _ _ (c_spec_l07Code ha.sl ?_)
  by_cases h : IsPart k l ∧ 0 ≤ kind ∧ kind ≤ 2
  case neg =>
    rw [if_neg h] at hK ⊢
    exact ⟨fun e => absurd (eq_t e) (by omega), fun _ => ⟨fun _ => hK w _ (Below.refl _ _) (myI_nil _ _ _), fun e => absurd (ne_f e) (by omega)⟩⟩
  rw [if_pos h] at hK ⊢
  have hl := h.1.2.2.1; have k0 := h.1.1; have k3 := h.1.2.1
  refine ⟨fun _ => lenI ha.sl ⟨fun e => ⟨fun _ => ?_, fun e => absurd (ne_f e) (by omega)⟩, fun e => ⟨fun e => absurd rfl (ne_t e), fun _ => ?_⟩⟩, fun e => absurd rfl (eq_f e)⟩
  · rw [if_pos (by have := eq_t e; omega)] at hK
    exact hK w _ (Below.refl _ _) (myI_nil _ _ _)
  have e := eq_f e
  rw [if_neg (by omega)] at hK
  refine c_spec_l07Fault ha.sl (by omega) (by omega) (by omega) fun w2 v hb2 hm => lenI hm.sl ?_
  have hs2 := hb2.size
  have ht3 := faR_triples l kind 0 l.length
  rw [show ((1 : Int) - 1).toNat = 0 from by decide, show ((l.length : Int) + 1 - 1).toNat = l.length from by omega]
  cases hc : faR l kind 0 l.length with
  | nil =>
    rw [if_pos hc] at hK
    refine ⟨fun e => absurd (dec_t e) (by simp), fun _ => c_spec_l07Next (ha.sl.keep hb2) hl (by omega) k3 fun w3 v' b hb hbel ho => ?_⟩
    have hnl := nextL_len l kind k.toNat
    exact hK w3 v' (hb2.trans (hbel.mono hs2)) (own_my ho (by show (nextL l kind k.toNat).length ≤ _; omega) (by omega) ho.lt)
  | cons t r =>
    rw [if_neg (by rw [hc]; simp)] at hK
    rw [hc] at ht3
    have := ht3 t (by simp)
    exact ⟨fun _ => hK w2 _ hb2 (myI_nil _ _ _), fun e => absurd (dec_f e) (by simp only [List.headD_cons]; omega)⟩

end Go.Proofs.Ytlbhpbaeokgmaaa

/- The reading of spec_CountFaults, and its contract. No condition. -/
namespace Go.Proofs.Ytlbhpbaeokgmaaa
open Go Go.RowKit Eng Mem
set_option linter.unusedVariables false
set_option maxRecDepth 100000
def B_spec_CountFaults_9 (part1 : Value) (kind2 : Int) (z10 : Int) (count9 : Int) (y11 : Int) (N : (Value × Int × Int) → (Int × Int) → World → Prop) (D2 : (Value × Int × Int × Int × Unit) → World → Prop) (w : World) : Prop :=
  (((decide (y11 < z10)) = true → (Fc Try.prog 41 #[part1, (.int .i64 kind2), (.int .i64 y11), (.int .i64 z10)] w (.one (.int .i64)) fun (x34_5 : Int) w_4 => (((decide (x34_5 > (0 : Int))) = true → N ((part1 : Value), kind2, z10) ((IntKind.i64.wrap (count9 + (1 : Int))), (IntKind.i64.wrap (y11 + (1 : Int)))) w_4) ∧ ((decide (x34_5 > (0 : Int))) = false → N ((part1 : Value), kind2, z10) (count9, (IntKind.i64.wrap (y11 + (1 : Int)))) w_4)))) ∧ ((decide (y11 < z10)) = false → D2 ((part1 : Value), kind2, count9, z10, ()) w))

abbrev L_spec_CountFaults_9_e2 : List Slot := [.junk, .k .any, .k (.int .i64), .junk, .junk, .junk, .junk, .junk, .junk, .k (.int .i64), .k (.int .i64), .junk, .junk, .junk, .junk, .junk, .junk, .junk, .junk, .junk, .junk, .junk, .junk, .junk, .junk, .junk, .junk, .junk, .junk, .junk, .junk, .junk, .junk, .junk, .junk, .junk, .junk, .junk, .junk]

abbrev L_spec_CountFaults_9_sp : List Slot := [.junk, .k .any, .k (.int .i64), .junk, .junk, .junk, .junk, .junk, .junk, .k (.int .i64), .k (.int .i64), .k (.int .i64), .junk, .junk, .junk, .junk, .junk, .junk, .junk, .junk, .junk, .junk, .junk, .junk, .junk, .junk, .junk, .junk, .junk, .junk, .junk, .junk, .junk, .junk, .junk, .junk, .junk, .junk, .junk]
abbrev L_spec_CountFaults_9_ex : List (Nat × List Slot) := [(2, L_spec_CountFaults_9_e2)]
abbrev L_spec_CountFaults_9_rt : List Slot := [.junk, .junk, .junk, .junk, .junk, .junk, .junk, .junk, .junk, .junk, .junk, .junk, .junk, .junk, .junk, .junk, .junk, .junk, .junk, .junk, .junk, .junk, .junk, .junk, .junk, .junk, .junk, .junk, .junk, .junk, .junk, .junk, .junk, .junk, .junk, .junk, .junk, .junk, .junk]

def L_spec_CountFaults_9_b (Φ : Post) (u : (Value × Int × Int)) (N : (Value × Int × Int) → (Int × Int) → World → Prop) (s : (Int × Int)) (w : World) : Prop :=
  B_spec_CountFaults_9 u.1 u.2.1 u.2.2 s.1 s.2 N (fun v w => ∀ j : Nat → Value, Φ (.exit 2) (mkT j 0 L_spec_CountFaults_9_e2 v) w) w

theorem L_spec_CountFaults_9_eq (j : Nat → Value) (u : (Value × Int × Int)) (s : (Int × Int)) (N : (Value × Int × Int) → (Int × Int) → World → Prop) (D2 : (Value × Int × Int × Int × Unit) → World → Prop) (R : (Unit) → World → Prop) (w : World) :
    W Try.prog ty (fun _ _ _ _ => False) (loopAt Try.f13 9) (loopPost L_spec_CountFaults_9_sp [(2, (⟨L_spec_CountFaults_9_e2, D2⟩ : Door))] ⟨L_spec_CountFaults_9_rt, R⟩ (fun v w => N ((fun v => (v.1, v.2.1, v.2.2.2.1)) v) ((fun v => (v.2.2.1, v.2.2.2.2.1)) v) w)) (mkT j 0 L_spec_CountFaults_9_sp ((fun u s => (u.1, u.2.1, s.1, u.2.2, s.2, ())) u s)) w =
    B_spec_CountFaults_9 u.1 u.2.1 u.2.2 s.1 s.2 N D2 w := by
  kernel_rfl

def O_spec_CountFaults_1 : Code → Post → List SV → World → Prop :=
  orc 9 (loopAt Try.f13 9) L_spec_CountFaults_9_sp (fun Φ fr w => LOOP (U := (Value × Int × Int)) (S := (Int × Int)) ((fun v => (v.1, v.2.1, v.2.2.2.1)) (extT L_spec_CountFaults_9_sp fr)) (L_spec_CountFaults_9_b Φ ((fun v => (v.1, v.2.1, v.2.2.2.1)) (extT L_spec_CountFaults_9_sp fr))) ((fun v => (v.2.2.1, v.2.2.2.2.1)) (extT L_spec_CountFaults_9_sp fr)) w) (fun _ _ _ _ => False)

theorem O_spec_CountFaults_1_ok : Sound Try.prog O_spec_CountFaults_1 :=
  orc_ok (sound_none _) fun Φ fr w hs h => loop_ok (ty := ty) follows (sound_none _) L_spec_CountFaults_9_sp (fun v => (v.1, v.2.1, v.2.2.2.1)) (fun v => (v.2.2.1, v.2.2.2.2.1)) (fun u s => (u.1, u.2.1, s.1, u.2.2, s.2, ())) (fun _ => rfl) L_spec_CountFaults_9_ex L_spec_CountFaults_9_rt (body := L_spec_CountFaults_9_b Φ) (fun j u s w N hb => by
    have e := L_spec_CountFaults_9_eq j u s N (doorOf Φ (.exit 2) L_spec_CountFaults_9_e2).D (doorOf Φ .ret L_spec_CountFaults_9_rt).D w
    exact Eq.mpr e hb) hs h

def B_spec_CountFaults_6 (part1 : Value) (kind2 : Int) (count9 : Int) (z10 : Int) (N : (Value × Int) → (Int × Int) → World → Prop) (D0 : (Int × Unit) → World → Prop) (w : World) : Prop :=
  (QAll Try.prog (Builtin.len_ #[24] 3 #[part1]) (.int .i64) fun (x21_3 : Int) => (((decide (z10 ≤ x21_3)) = true → (At (loopAt Try.f13 9) (loopAt Try.f13 9) (LOOP (U := (Value × Int × Int)) (S := (Int × Int)) ((part1 : Value), kind2, z10) (fun N_9 s_10 w_11 => B_spec_CountFaults_9 (part1 : Value) kind2 z10 s_10.1 s_10.2 N_9 (fun (v_6 : (Value × Int × Int × Int × Unit)) w_7 => ∀ _j_8 : Nat → Value, N ((v_6.1 : Value), v_6.2.1) (v_6.2.2.1, (IntKind.i64.wrap (v_6.2.2.2.1 + (1 : Int)))) w_7) w_11) (count9, (1 : Int)) w))) ∧ ((decide (z10 ≤ x21_3)) = false → D0 (count9, ()) w)))

abbrev L_spec_CountFaults_6_e0 : List Slot := [.junk, .junk, .junk, .junk, .junk, .junk, .junk, .junk, .junk, .k (.int .i64), .junk, .junk, .junk, .junk, .junk, .junk, .junk, .junk, .junk, .junk, .junk, .junk, .junk, .junk, .junk, .junk, .junk, .junk, .junk, .junk, .junk, .junk, .junk, .junk, .junk, .junk, .junk, .junk, .junk]

abbrev L_spec_CountFaults_6_sp : List Slot := [.junk, .k .any, .k (.int .i64), .junk, .junk, .junk, .junk, .junk, .junk, .k (.int .i64), .k (.int .i64), .junk, .junk, .junk, .junk, .junk, .junk, .junk, .junk, .junk, .junk, .junk, .junk, .junk, .junk, .junk, .junk, .junk, .junk, .junk, .junk, .junk, .junk, .junk, .junk, .junk, .junk, .junk, .junk]
abbrev L_spec_CountFaults_6_ex : List (Nat × List Slot) := [(0, L_spec_CountFaults_6_e0)]
abbrev L_spec_CountFaults_6_rt : List Slot := [.junk, .junk, .junk, .junk, .junk, .junk, .junk, .junk, .junk, .junk, .junk, .junk, .junk, .junk, .junk, .junk, .junk, .junk, .junk, .junk, .junk, .junk, .junk, .junk, .junk, .junk, .junk, .junk, .junk, .junk, .junk, .junk, .junk, .junk, .junk, .junk, .junk, .junk, .junk]

def L_spec_CountFaults_6_b (Φ : Post) (u : (Value × Int)) (N : (Value × Int) → (Int × Int) → World → Prop) (s : (Int × Int)) (w : World) : Prop :=
  B_spec_CountFaults_6 u.1 u.2 s.1 s.2 N (fun v w => ∀ j : Nat → Value, Φ (.exit 0) (mkT j 0 L_spec_CountFaults_6_e0 v) w) w

theorem L_spec_CountFaults_6_eq (j : Nat → Value) (u : (Value × Int)) (s : (Int × Int)) (N : (Value × Int) → (Int × Int) → World → Prop) (D0 : (Int × Unit) → World → Prop) (R : (Unit) → World → Prop) (w : World) :
    W Try.prog ty O_spec_CountFaults_1 (loopAt Try.f13 6) (loopPost L_spec_CountFaults_6_sp [(0, (⟨L_spec_CountFaults_6_e0, D0⟩ : Door))] ⟨L_spec_CountFaults_6_rt, R⟩ (fun v w => N ((fun v => (v.1, v.2.1)) v) ((fun v => (v.2.2.1, v.2.2.2.1)) v) w)) (mkT j 0 L_spec_CountFaults_6_sp ((fun u s => (u.1, u.2, s.1, s.2, ())) u s)) w =
    B_spec_CountFaults_6 u.1 u.2 s.1 s.2 N D0 w := by
  kernel_rfl

def O_spec_CountFaults_2 : Code → Post → List SV → World → Prop :=
  orc 6 (loopAt Try.f13 6) L_spec_CountFaults_6_sp (fun Φ fr w => LOOP (U := (Value × Int)) (S := (Int × Int)) ((fun v => (v.1, v.2.1)) (extT L_spec_CountFaults_6_sp fr)) (L_spec_CountFaults_6_b Φ ((fun v => (v.1, v.2.1)) (extT L_spec_CountFaults_6_sp fr))) ((fun v => (v.2.2.1, v.2.2.2.1)) (extT L_spec_CountFaults_6_sp fr)) w) O_spec_CountFaults_1

theorem O_spec_CountFaults_2_ok : Sound Try.prog O_spec_CountFaults_2 :=
  orc_ok O_spec_CountFaults_1_ok fun Φ fr w hs h => loop_ok (ty := ty) follows O_spec_CountFaults_1_ok L_spec_CountFaults_6_sp (fun v => (v.1, v.2.1)) (fun v => (v.2.2.1, v.2.2.2.1)) (fun u s => (u.1, u.2, s.1, s.2, ())) (fun _ => rfl) L_spec_CountFaults_6_ex L_spec_CountFaults_6_rt (body := L_spec_CountFaults_6_b Φ) (fun j u s w N hb => by
    have e := L_spec_CountFaults_6_eq j u s N (doorOf Φ (.exit 0) L_spec_CountFaults_6_e0).D (doorOf Φ .ret L_spec_CountFaults_6_rt).D w
    exact Eq.mpr e hb) hs h

def V_spec_CountFaults (k0 : Int) (part1 : Value) (kind2 : Int) (w : World) (K : (Int × Int) → World → Prop) : Prop :=
  (Fc Try.prog 38 #[(.int .i64 k0), part1, (.int .i64 kind2)] w (.one (.int .i64)) fun (x15_2 : Int) w_1 => (((x15_2 != (0 : Int)) = true → K ((0 : Int), x15_2) w_1) ∧ ((x15_2 != (0 : Int)) = false → (At (loopAt Try.f13 6) (loopAt Try.f13 6) (LOOP (U := (Value × Int)) (S := (Int × Int)) ((part1 : Value), kind2) (fun N_15 s_16 w_17 => B_spec_CountFaults_6 (part1 : Value) kind2 s_16.1 s_16.2 N_15 (fun (v_12 : (Int × Unit)) w_13 => ∀ _j_14 : Nat → Value, K (v_12.1, (0 : Int)) w_13) w_17) ((0 : Int), (1 : Int)) w_1)))))

theorem eq_spec_CountFaults (k0 : Int) (part1 : Value) (kind2 : Int) (w : World) (K : (Int × Int) → World → Prop) :
    W Try.prog ty O_spec_CountFaults_2 (bodyOf Try.f13) (fnPost Try.prog Try.f13.results.toList (.two (.int .i64) (.int .i64)) K) (frame0 [(.int .i64 k0), part1, (.int .i64 kind2)] 39) w = V_spec_CountFaults k0 part1 kind2 w K := by
  kernel_rfl

theorem body_spec_CountFaults : Try.f13.body = some (bodyOf Try.f13) := by kernel_rfl
theorem name_spec_CountFaults : (Try.f13.name == "runtime.NumGoroutine") = false := by kernel_rfl

theorem walk_spec_CountFaults (k0 : Int) (part1 : Value) (kind2 : Int) {w : World} {K : (Int × Int) → World → Prop} (h : V_spec_CountFaults k0 part1 kind2 w K) : Fc Try.prog 13 #[(.int .i64 k0), part1, (.int .i64 kind2)] w (.two (.int .i64) (.int .i64)) K :=
  fn_ok follows O_spec_CountFaults_2_ok Try.func13 name_spec_CountFaults body_spec_CountFaults Try.ntmps13 [(.int .i64 k0), part1, (.int .i64 kind2)] (Eq.mpr (eq_spec_CountFaults k0 part1 kind2 w K) h)

-- uses S8Cnt
theorem c_spec_CountFaults {k kind : Int} {a : Value} {l : List Int} {w : World} {K : Int × Int → World → Prop} (_ : I64 k) (ha : ArgI w a l) (_ : I64 kind)
    (hK : ∀ w', Below w.heap.size w w' → K ((cntF k l kind).1, (cntF k l kind).2) w') : Fc Try.prog F_spec_CountFaults #[.int .i64 k, a, .int .i64 kind] w (.two (.int .i64) (.int .i64)) K := by
  unfold cntF at hK
  have h := ha.sl
  refine walk_spec_CountFaults _ _ _ (c_spec_l07Code ha.sl ?_)
  by_cases hp : IsPart k l ∧ 0 ≤ kind ∧ kind ≤ 2
  · rw [if_pos hp] at hK ⊢
    have hl := hp.1.2.2.1
    refine ⟨fun e => absurd rfl (ne_t e), fun _ => ?_⟩
    refine lp (fun s w' => 1 ≤ s.2 ∧ s.2 ≤ l.length + 1 ∧ Below w.heap.size w w' ∧ s.1 = (faR l kind 0 (s.2 - 1).toNat).length) (fun s _ => (l.length + 1 - s.2).toNat) ⟨by simp, by simp; omega, Below.refl _ _, by simp [faR]⟩ ?_
    rintro ⟨cnt, z⟩ w1 N ⟨z0, z1, hb, hc⟩ hN
    simp only at z0 z1 hc
    unfold B_spec_CountFaults_6
    refine lenI (h.keep hb) ⟨fun hle => ?_, fun hgt => ?_⟩
    · have hle := dec_t hle
      simp only at hle
      have hfl := faR_len l kind (z - 1).toNat (by omega)
      have hstep := faR_succ l kind 0 (z - 1).toNat
      rw [show ((0 + (z - 1).toNat : Nat) : Int) + 1 = z from by omega, show 0 + (z - 1).toNat = (z - 1).toNat from by omega] at hstep
      refine lp (fun s w' => 1 ≤ s.2 ∧ (s.2 ≤ z) ∧ Below w.heap.size w w' ∧ s.1 = cnt + (fz l kind z (s.2 - 1).toNat).length) (fun s _ => (z - s.2).toNat) ⟨by simp, by simp; omega, hb, by simp [fz]⟩ ?_
      rintro ⟨c, y⟩ w2 N' ⟨y0, y1, hb2, hc2⟩ hN'
      simp only at y0 y1 hc2
      unfold B_spec_CountFaults_9
      refine ⟨fun hlt => ?_, fun hge => ?_⟩
      · have hlt := dec_t hlt
        simp only at hlt
        refine c_spec_l07At (h.keep hb2) (by omega) y0 hlt hle fun w3 hb3 => ?_
        dsimp only
        have hbb := hb2.trans (hb3.mono hb2.size)
        have hfz := fz_len l kind z (y - 1).toNat
        have hsucc := congrArg List.length (fz_succ l kind z (y - 1).toNat)
        rw [show (((y - 1).toNat : Int) + 1) = y from by omega, List.length_append] at hsucc
        by_cases hi : IsF l kind y z
        · rw [if_pos hi] at hsucc ⊢
          simp only [List.length_singleton] at hsucc
          refine ⟨fun _ => ?_, fun hn => absurd hi.1 (by have := dec_f hn; omega)⟩
          rw [wrap_small (by omega) (by omega), wrap_small (by omega) (by omega)]
          refine hN' _ _ ⟨by simp; omega, by simp; omega, hbb, ?_⟩ (by simp; omega)
          simp only
          rw [show (y + 1 - 1).toNat = (y - 1).toNat + 1 from by omega, hsucc]
          omega
        · rw [if_neg hi] at hsucc ⊢
          simp only [List.length_nil] at hsucc
          refine ⟨fun hp => absurd (dec_t hp) (by omega), fun _ => ?_⟩
          rw [wrap_small (by omega) (by omega)]
          refine hN' _ _ ⟨by simp; omega, by simp; omega, hbb, ?_⟩ (by simp; omega)
          simp only
          rw [show (y + 1 - 1).toNat = (y - 1).toNat + 1 from by omega, hsucc]
          omega
      · have hge := dec_f hge
        simp only at hge
        have : y = z := by omega
        subst this
        intro _
        show N _ (c, IntKind.i64.wrap (y + 1)) w2
        rw [wrap_small (by omega) (by omega)]
        refine hN _ _ ⟨by simp; omega, by simp; omega, hb2, ?_⟩ (by simp; omega)
        simp only
        rw [show (y + 1 - 1).toNat = (y - 1).toNat + 1 from by omega, hstep, List.length_append, fz3, List.length_map]
        omega
    · have hgt := dec_f hgt
      simp only at hgt
      intro _
      have : z = l.length + 1 := by omega
      subst this
      rw [show ((l.length : Int) + 1 - 1).toNat = l.length from by omega] at hc
      subst hc
      exact hK w1 hb
  · rw [if_neg hp] at hK ⊢
    exact ⟨fun _ => hK w (Below.refl _ _), fun e => absurd (ne_f e) (by omega)⟩

end Go.Proofs.Ytlbhpbaeokgmaaa

/- The reading of spec_l07Count, and its contract. No condition. -/
namespace Go.Proofs.Ytlbhpbaeokgmaaa
open Go Go.RowKit Eng Mem
set_option linter.unusedVariables false
set_option maxRecDepth 100000
def B_spec_l07Count_5 (n0 : Int) (k1 : Int) (part2 : Value) (kind3 : Int) (next9 : Value) (count10 : Int) (i11 : Int) (N : (Int × Int × Value × Int × Value) → (Int × Int) → World → Prop) (D0 : (Int × Unit) → World → Prop) (w : World) : Prop :=
  (QAll Try.prog (Builtin.len_ #[24] 3 #[next9]) (.int .i64) fun (x22_4 : Int) => (((decide (i11 < x22_4)) = true → (∀ w_5, Drew w w_5 → (QAll Try.prog (Instr.indexAt 24 next9 (.int .i64 i11)) .any fun (x33_6 : Value) => (QSub Try.prog (Instr.loadAt 2 x33_6) w_5 (.int .i64) fun (x34_7 : Int) => ((Fc Try.prog 74 #[part2] w_5 (.one .any) fun (x30_9 : Value) w_8 => (Keeps w_5 w_8 ((Pr Try.prog (Instr.buildSlice 24 1 #[(0, (.int .i64 x34_7))]) w_8 (.one .any) fun (x35_11 : Value) w_10 => (Pr Try.prog (Builtin.append_ #[24, 24] 24 #[x30_9, x35_11]) w_10 (.one .any) fun (x36_13 : Value) w_12 => (Fc Try.prog 58 #[(.int .i64 n0), (.int .i64 k1), x36_13, (.int .i64 kind3)] w_12 (.one (.int .i64)) fun (x38_15 : Int) w_14 => N (n0, k1, (part2 : Value), kind3, (next9 : Value)) ((IntKind.i64.wrap (count10 + x38_15)), (IntKind.i64.wrap (i11 + (1 : Int)))) w_14)))))) ∧ (Pr Try.prog (Instr.buildSlice 24 1 #[(0, (.int .i64 x34_7))]) w_5 (.one .any) fun (x35_17 : Value) w_16 => (Fc Try.prog 74 #[part2] w_16 (.one .any) fun (x30_19 : Value) w_18 => (Pr Try.prog (Builtin.append_ #[24, 24] 24 #[x30_19, x35_17]) w_18 (.one .any) fun (x36_21 : Value) w_20 => (Fc Try.prog 58 #[(.int .i64 n0), (.int .i64 k1), x36_21, (.int .i64 kind3)] w_20 (.one (.int .i64)) fun (x38_23 : Int) w_22 => N (n0, k1, (part2 : Value), kind3, (next9 : Value)) ((IntKind.i64.wrap (count10 + x38_23)), (IntKind.i64.wrap (i11 + (1 : Int)))) w_22))))))))) ∧ ((decide (i11 < x22_4)) = false → D0 (count10, ()) w)))

abbrev L_spec_l07Count_5_e0 : List Slot := [.junk, .junk, .junk, .junk, .junk, .junk, .junk, .junk, .junk, .junk, .k (.int .i64), .junk, .junk, .junk, .junk, .junk, .junk, .junk, .junk, .junk, .junk, .junk, .junk, .junk, .junk, .junk, .junk, .junk, .junk, .junk, .junk, .junk, .junk, .junk, .junk, .junk, .junk, .junk, .junk, .junk, .junk]

abbrev L_spec_l07Count_5_sp : List Slot := [.k (.int .i64), .k (.int .i64), .k .any, .k (.int .i64), .junk, .junk, .junk, .junk, .junk, .k .any, .k (.int .i64), .k (.int .i64), .junk, .junk, .junk, .junk, .junk, .junk, .junk, .junk, .junk, .junk, .junk, .junk, .junk, .junk, .junk, .junk, .junk, .junk, .junk, .junk, .junk, .junk, .junk, .junk, .junk, .junk, .junk, .junk, .junk]
abbrev L_spec_l07Count_5_ex : List (Nat × List Slot) := [(0, L_spec_l07Count_5_e0)]
abbrev L_spec_l07Count_5_rt : List Slot := [.junk, .junk, .junk, .junk, .junk, .junk, .junk, .junk, .junk, .junk, .junk, .junk, .junk, .junk, .junk, .junk, .junk, .junk, .junk, .junk, .junk, .junk, .junk, .junk, .junk, .junk, .junk, .junk, .junk, .junk, .junk, .junk, .junk, .junk, .junk, .junk, .junk, .junk, .junk, .junk, .junk]

def L_spec_l07Count_5_b (Φ : Post) (u : (Int × Int × Value × Int × Value)) (N : (Int × Int × Value × Int × Value) → (Int × Int) → World → Prop) (s : (Int × Int)) (w : World) : Prop :=
  B_spec_l07Count_5 u.1 u.2.1 u.2.2.1 u.2.2.2.1 u.2.2.2.2 s.1 s.2 N (fun v w => ∀ j : Nat → Value, Φ (.exit 0) (mkT j 0 L_spec_l07Count_5_e0 v) w) w

theorem L_spec_l07Count_5_eq (j : Nat → Value) (u : (Int × Int × Value × Int × Value)) (s : (Int × Int)) (N : (Int × Int × Value × Int × Value) → (Int × Int) → World → Prop) (D0 : (Int × Unit) → World → Prop) (R : (Unit) → World → Prop) (w : World) :
    W Try.prog ty (fun _ _ _ _ => False) (loopAt Try.f58 5) (loopPost L_spec_l07Count_5_sp [(0, (⟨L_spec_l07Count_5_e0, D0⟩ : Door))] ⟨L_spec_l07Count_5_rt, R⟩ (fun v w => N ((fun v => (v.1, v.2.1, v.2.2.1, v.2.2.2.1, v.2.2.2.2.1)) v) ((fun v => (v.2.2.2.2.2.1, v.2.2.2.2.2.2.1)) v) w)) (mkT j 0 L_spec_l07Count_5_sp ((fun u s => (u.1, u.2.1, u.2.2.1, u.2.2.2.1, u.2.2.2.2, s.1, s.2, ())) u s)) w =
    B_spec_l07Count_5 u.1 u.2.1 u.2.2.1 u.2.2.2.1 u.2.2.2.2 s.1 s.2 N D0 w := by
  kernel_rfl

def O_spec_l07Count_1 : Code → Post → List SV → World → Prop :=
  orc 5 (loopAt Try.f58 5) L_spec_l07Count_5_sp (fun Φ fr w => LOOP (U := (Int × Int × Value × Int × Value)) (S := (Int × Int)) ((fun v => (v.1, v.2.1, v.2.2.1, v.2.2.2.1, v.2.2.2.2.1)) (extT L_spec_l07Count_5_sp fr)) (L_spec_l07Count_5_b Φ ((fun v => (v.1, v.2.1, v.2.2.1, v.2.2.2.1, v.2.2.2.2.1)) (extT L_spec_l07Count_5_sp fr))) ((fun v => (v.2.2.2.2.2.1, v.2.2.2.2.2.2.1)) (extT L_spec_l07Count_5_sp fr)) w) (fun _ _ _ _ => False)

theorem O_spec_l07Count_1_ok : Sound Try.prog O_spec_l07Count_1 :=
  orc_ok (sound_none _) fun Φ fr w hs h => loop_ok (ty := ty) follows (sound_none _) L_spec_l07Count_5_sp (fun v => (v.1, v.2.1, v.2.2.1, v.2.2.2.1, v.2.2.2.2.1)) (fun v => (v.2.2.2.2.2.1, v.2.2.2.2.2.2.1)) (fun u s => (u.1, u.2.1, u.2.2.1, u.2.2.2.1, u.2.2.2.2, s.1, s.2, ())) (fun _ => rfl) L_spec_l07Count_5_ex L_spec_l07Count_5_rt (body := L_spec_l07Count_5_b Φ) (fun j u s w N hb => by
    have e := L_spec_l07Count_5_eq j u s N (doorOf Φ (.exit 0) L_spec_l07Count_5_e0).D (doorOf Φ .ret L_spec_l07Count_5_rt).D w
    exact Eq.mpr e hb) hs h

def V_spec_l07Count (n0 : Int) (k1 : Int) (part2 : Value) (kind3 : Int) (w : World) (K : Int → World → Prop) : Prop :=
  (QAll Try.prog (Builtin.len_ #[24] 3 #[part2]) (.int .i64) fun (x13_1 : Int) => (((x13_1 == n0) = true → K (1 : Int) w) ∧ ((x13_1 == n0) = false → (Fc Try.prog 44 #[(.int .i64 k1), part2, (.int .i64 kind3)] w (.one .any) fun (x19_3 : Value) w_2 => (At (loopAt Try.f58 5) (loopAt Try.f58 5) (LOOP (U := (Int × Int × Value × Int × Value)) (S := (Int × Int)) (n0, k1, (part2 : Value), kind3, (x19_3 : Value)) (fun N_27 s_28 w_29 => B_spec_l07Count_5 n0 k1 (part2 : Value) kind3 (x19_3 : Value) s_28.1 s_28.2 N_27 (fun (v_24 : (Int × Unit)) w_25 => ∀ _j_26 : Nat → Value, K v_24.1 w_25) w_29) ((0 : Int), (0 : Int)) w_2))))))

theorem eq_spec_l07Count (n0 : Int) (k1 : Int) (part2 : Value) (kind3 : Int) (w : World) (K : Int → World → Prop) :
    W Try.prog ty O_spec_l07Count_1 (bodyOf Try.f58) (fnPost Try.prog Try.f58.results.toList (.one (.int .i64)) K) (frame0 [(.int .i64 n0), (.int .i64 k1), part2, (.int .i64 kind3)] 41) w = V_spec_l07Count n0 k1 part2 kind3 w K := by
  kernel_rfl

theorem body_spec_l07Count : Try.f58.body = some (bodyOf Try.f58) := by kernel_rfl
theorem name_spec_l07Count : (Try.f58.name == "runtime.NumGoroutine") = false := by kernel_rfl

theorem walk_spec_l07Count (n0 : Int) (k1 : Int) (part2 : Value) (kind3 : Int) {w : World} {K : Int → World → Prop} (h : V_spec_l07Count n0 k1 part2 kind3 w K) : Fc Try.prog 58 #[(.int .i64 n0), (.int .i64 k1), part2, (.int .i64 kind3)] w (.one (.int .i64)) K :=
  fn_ok follows O_spec_l07Count_1_ok Try.func58 name_spec_l07Count body_spec_l07Count Try.ntmps58 [(.int .i64 n0), (.int .i64 k1), part2, (.int .i64 kind3)] (Eq.mpr (eq_spec_l07Count n0 k1 part2 kind3 w K) h)

-- uses S8CF
theorem c_spec_l07Count {k kind : Int} {n : Nat} (hk : 0 ≤ k ∧ k ≤ 3) (hn : n ≤ 12) :
    ∀ (fuel : Nat) (l : List Int) (part : Value) (w : World) (K : Int → World → Prop), l.length + fuel = n → SlI w part l → (∀ w', Below w.heap.size w w' → K (cntFree k kind n fuel l : Nat) w') →
      Fc Try.prog F_spec_l07Count #[.int .i64 n, .int .i64 k, part, .int .i64 kind] w (.one (.int .i64)) K
  | fuel, l, part, w, K, hlen, hs, hK => by
    refine walk_spec_l07Count _ _ _ _ (lenI hs ⟨fun he => ?_, fun hne => ?_⟩)
    · have he := eq_t he
      have := hK w (Below.refl _ _)
      unfold cntFree at this
      rw [if_pos (by omega)] at this
      exact this
    have hne := eq_f hne
    match fuel, hlen, hK with
    | 0, hlen, _ => omega
    | fuel + 1, hlen, hK =>
      have hc : cntFree k kind n (fuel + 1) l = ((nextL l kind k.toNat).map fun c => cntFree k kind n fuel (l ++ [c])).sum := by rw [cntFree, if_neg (by omega)]
      rw [hc] at hK
      have hnl := nextL_len l kind k.toNat
      refine c_spec_l07Next hs (by omega) hk.1 hk.2 fun w1 v b hb hbel ho => ?_
      obtain ⟨cs, hcs⟩ : ∃ cs, (nextL l kind k.toNat).map (fun c => cntFree k kind n fuel (l ++ [c])) = cs := ⟨_, rfl⟩
      rw [hcs] at hK
      have hcl : cs.length = (nextL l kind k.toNat).length := by rw [← hcs, List.length_map]
      have hcb : ∀ x ∈ cs, x ≤ 531441 := fun x hx => by
        rw [← hcs] at hx
        obtain ⟨c, _, rfl⟩ := List.mem_map.1 hx
        exact Nat.le_trans (cntFree_le k kind hk.2 n fuel _) (pow3_12 (by omega))
      have hsb : ∀ i, i ≤ cs.length → (cs.take i).sum ≤ i * 531441 := fun i => by
        induction i with
        | zero => intro _; simp
        | succ i ih =>
          intro h
          rw [sum_take_succ cs i (by omega)]
          have := ih (by omega)
          have := hcb _ (List.getElem_mem (show i < cs.length by omega))
          omega
      have hs1 := hs.keep hbel
      refine lp (fun s w' => 0 ≤ s.2 ∧ s.2 ≤ cs.length ∧ Below w1.heap.size w1 w' ∧ s.1 = ((cs.take s.2.toNat).sum : Nat)) (fun s _ => (cs.length - s.2).toNat) ⟨by simp, by simp, Below.refl _ _, by simp⟩ ?_
      rintro ⟨cnt, i⟩ w2 N ⟨i0, i1, hb2, hcnt⟩ hN
      simp only at i0 i1 hcnt
      subst hcnt
      unfold B_spec_l07Count_5
      have hv2 := ho.keep hb2
      refine lenI (own_slI hv2 (by omega)) ⟨fun hlt w3 hd => ?_, fun hge => ?_⟩
      · have hlt := dec_t hlt
        simp only at hlt
        have hb3 := hb2.trans (hd.below w1.heap.size)
        have hs3 := hs1.keep hb3
        have hz3 := hb3.size
        have hi : i.toNat < cs.length := by omega
        refine atI (own_slI (ho.keep hb3) (by omega)) i0 (by simpa using hlt) ?_
        dsimp only
        obtain ⟨x, hx⟩ : ∃ x, (nextL l kind k.toNat).getD i.toNat 0 = x := ⟨_, rfl⟩
        have hcx : cs[i.toNat] = cntFree k kind n fuel (l ++ [x]) := by
          rw [← hx]
          simp only [← hcs, List.getElem_map, List.getD, List.getElem?_eq_getElem (show i.toNat < (nextL l kind k.toNat).length by omega), Option.getD_some]
        rw [hx]
        have hL : (l ++ [x]).length = l.length + 1 := by simp
        have hsum := sum_take_succ cs i.toNat hi
        have hsbi := hsb i.toNat (by omega)
        have hcbi := hcb _ (List.getElem_mem hi)
        have fin : ∀ w', Below w3.heap.size w3 w' → N (n, k, part, kind, v) (IntKind.i64.wrap (((cs.take i.toNat).sum : Nat) + (cntFree k kind n fuel (l ++ [x]) : Nat)), IntKind.i64.wrap (i + 1)) w' := fun w' hb' => by
          rw [← hcx, wrap_small (by omega) (by omega), wrap_small (by omega) (by omega)]
          refine hN _ _ ⟨by simp; omega, by simp; omega, hb3.trans (hb'.mono hz3), ?_⟩ (by simp; omega)
          simp only
          rw [show (i + 1).toNat = i.toNat + 1 from by omega, hsum]
          omega
        refine ⟨c_spec_l01Own hs3 (by omega) fun w4 y b4 hb4 q4 o4 => ⟨q4, ?_⟩, ?_⟩
        · have hz4 := q4.size
          refine appI o4 (by omega) fun y' w5 b5 o5 m5 hb5 => ?_
          have q5 : Below w3.heap.size w3 w5 := q4.trans (m5.below (by omega) (by simp; omega))
          exact c_spec_l07Count hk hn fuel (l ++ [x]) y' w5 _ (by rw [hL]; omega) (own_slI o5 (by rw [hL]; omega)) fun w6 hb6 => fin w6 (q5.trans (hb6.mono q5.size))
        · refine mk1 ySI rfl fun b4 w4 n4 o4 => c_spec_l01Own (hs3.keep n4.below) (by omega) fun w5 y b5 hb5 q5 o5 => ?_
          have hz4 := n4.below.size; have hz5 := q5.size
          refine app ySI 1 o5 (o4.keep q5).sl (by simp) (iv_one [x]) (by omega) fun y' w6 b6 o6 m6 hb6 => ?_
          have q6 : Below w3.heap.size w3 w6 := (n4.below.trans (q5.mono hz4)).trans (m6.below (by omega) (by simp; omega))
          have o6' : OwnI w6 b6 y' (l ++ [x]) := by
            unfold OwnI
            rw [hL, iv, List.map_append]
            exact o6
          exact c_spec_l07Count hk hn fuel (l ++ [x]) y' w6 _ (by rw [hL]; omega) (own_slI o6' (by rw [hL]; omega)) fun w7 hb7 => fin w7 (q6.trans (hb7.mono q6.size))
      · have hge := dec_f hge
        simp only at hge
        intro _
        have : i = cs.length := by omega
        subst this
        have := hK w2 (hbel.trans (hb2.mono hbel.size))
        rw [show ((cs.length : Int)).toNat = cs.length from by omega, List.take_length]
        exact this

end Go.Proofs.Ytlbhpbaeokgmaaa

/- The reading of spec_CountFree, and its contract. No condition. -/
namespace Go.Proofs.Ytlbhpbaeokgmaaa
open Go Go.RowKit Eng Mem
set_option linter.unusedVariables false
set_option maxRecDepth 100000
def V_spec_CountFree (n0 : Int) (k1 : Int) (kind2 : Int) (w : World) (K : (Int × Int) → World → Prop) : Prop :=
  (Fc Try.prog 53 #[(.int .i64 n0), (.int .i64 (0 : Int)), (.int .i64 (12 : Int))] w (.one .bool) fun (x9_2 : Bool) w_1 => (((!x9_2) = true → K ((0 : Int), (2 : Int)) w_1) ∧ ((!x9_2) = false → (Fc Try.prog 38 #[(.int .i64 k1), (.slice none 0 0), (.int .i64 kind2)] w_1 (.one (.int .i64)) fun (x14_4 : Int) w_3 => (((x14_4 != (0 : Int)) = true → K ((0 : Int), (2 : Int)) w_3) ∧ ((x14_4 != (0 : Int)) = false → (Pr Try.prog (Instr.buildSlice 24 0 #[]) w_3 (.one .any) fun (x19_6 : Value) w_5 => (Fc Try.prog 58 #[(.int .i64 n0), (.int .i64 k1), x19_6, (.int .i64 kind2)] w_5 (.one (.int .i64)) fun (x21_8 : Int) w_7 => K (x21_8, (0 : Int)) w_7))))))))

theorem eq_spec_CountFree (n0 : Int) (k1 : Int) (kind2 : Int) (w : World) (K : (Int × Int) → World → Prop) :
    W Try.prog ty (fun _ _ _ _ => False) (bodyOf Try.f24) (fnPost Try.prog Try.f24.results.toList (.two (.int .i64) (.int .i64)) K) (frame0 [(.int .i64 n0), (.int .i64 k1), (.int .i64 kind2)] 22) w = V_spec_CountFree n0 k1 kind2 w K := by
  kernel_rfl

theorem body_spec_CountFree : Try.f24.body = some (bodyOf Try.f24) := by kernel_rfl
theorem name_spec_CountFree : (Try.f24.name == "runtime.NumGoroutine") = false := by kernel_rfl

theorem walk_spec_CountFree (n0 : Int) (k1 : Int) (kind2 : Int) {w : World} {K : (Int × Int) → World → Prop} (h : V_spec_CountFree n0 k1 kind2 w K) : Fc Try.prog 24 #[(.int .i64 n0), (.int .i64 k1), (.int .i64 kind2)] w (.two (.int .i64) (.int .i64)) K :=
  fn_ok follows (sound_none _) Try.func24 name_spec_CountFree body_spec_CountFree Try.ntmps24 [(.int .i64 n0), (.int .i64 k1), (.int .i64 kind2)] (Eq.mpr (eq_spec_CountFree n0 k1 kind2 w K) h)

-- uses S8CF
theorem c_spec_CountFree {n k kind : Int} {w : World} {K : Int × Int → World → Prop} (_ : I64 n) (_ : I64 k) (_ : I64 kind)
    (hK : ∀ w', Below w.heap.size w w' → K ((countFree n k kind).1, (countFree n k kind).2) w') : Fc Try.prog F_spec_CountFree #[.int .i64 n, .int .i64 k, .int .i64 kind] w (.two (.int .i64) (.int .i64)) K := by
  unfold countFree at hK
  have k1 := hK w (Below.refl _ _)
  refine walk_spec_CountFree _ _ _ (c_spec_l01In _ _ _ ⟨fun h => by rwa [if_neg (fun hh => notd_t h hh.1)] at k1, fun h1 => c_spec_l07Code (slI_nil w) ?_⟩)
  have h1 := notd_f h1
  have hnil := isPart_nil k
  by_cases h : IsPart k [] ∧ 0 ≤ kind ∧ kind ≤ 2
  · rw [if_pos h]
    have h2 := hnil.1 h.1
    have hnn : ((n.toNat : Nat) : Int) = n := by omega
    refine ⟨fun e => absurd rfl (ne_t e), fun _ => nilI fun b v w1 hb hbel ho => ?_⟩
    have main := c_spec_l07Count (k := k) (kind := kind) (n := n.toNat) (by omega) (by omega) n.toNat [] v w1
    rw [hnn] at main
    refine main _ (by simp) (own_slI ho (by simp)) fun w2 hb2 => ?_
    have := hK w2 (hbel.trans (hb2.mono hbel.size))
    rw [if_pos ⟨h1, h2, h.2⟩] at this
    exact this
  · rw [if_neg h]
    rw [if_neg (fun hh => h ⟨hnil.2 hh.2.1, hh.2.2⟩)] at k1
    exact ⟨fun _ => k1, fun e => absurd (ne_f e) (by omega)⟩

end Go.Proofs.Ytlbhpbaeokgmaaa

/- The reading of spec_l01From, and its contract. No condition. -/
namespace Go.Proofs.Ytlbhpbaeokgmaaa
open Go Go.RowKit Eng Mem
set_option linter.unusedVariables false
set_option maxRecDepth 100000
def B_spec_l01From_3 (code0 : Value) (s3 : Value) (i4 : Int) (N : (Value × Value) → Int → World → Prop) (D0 : (Value × Unit) → World → Prop) (w : World) : Prop :=
  (QAll Try.prog (Builtin.len_ #[22] 3 #[code0]) (.int .i64) fun (x14_7 : Int) => (((decide (i4 < x14_7)) = true → (((decide (i4 < (4096 : Int))) = true → (∀ w_8, Drew w w_8 → (NilOk s3 ∧ (QAll Try.prog (Instr.fieldAt 87 s3 2) .any fun (x25_9 : Value) => (QSub Try.prog (Instr.loadAt 85 x25_9) w_8 (.int .u64) fun (x26_10 : Int) => (QAll Try.prog (Instr.indexAt 22 code0 (.int .i64 i4)) .any fun (x30_11 : Value) => (QSub Try.prog (Instr.loadAt 5 x30_11) w_8 (.int .u8) fun (x31_12 : Int) => (QAll Try.prog (convert 5 85 (.int .u8 x31_12)) (.int .u64) fun (x32_13 : Int) => (NilOk s3 ∧ (QAll Try.prog (Instr.fieldAt 87 s3 2) .any fun (x36_14 : Value) => (PrU Try.prog (Instr.storeAt 85 x36_14 (.int .u64 (IntKind.u64.wrap ((IntKind.u64.wrap ((IntKind.u64.wrap (x26_10 * (1099511628211 : Int))) + x32_13)) + (193 : Int))))) w_8 fun w_15 => N ((code0 : Value), (s3 : Value)) (IntKind.i64.wrap (i4 + (1 : Int))) w_15))))))))))) ∧ ((decide (i4 < (4096 : Int))) = false → D0 ((s3 : Value), ()) w))) ∧ ((decide (i4 < x14_7)) = false → D0 ((s3 : Value), ()) w)))

abbrev L_spec_l01From_3_e0 : List Slot := [.junk, .junk, .junk, .k .any, .junk, .junk, .junk, .junk, .junk, .junk, .junk, .junk, .junk, .junk, .junk, .junk, .junk, .junk, .junk, .junk, .junk, .junk, .junk, .junk, .junk, .junk, .junk, .junk, .junk, .junk, .junk, .junk, .junk, .junk, .junk, .junk, .junk, .junk]

abbrev L_spec_l01From_3_sp : List Slot := [.k .any, .junk, .junk, .k .any, .k (.int .i64), .junk, .junk, .junk, .junk, .junk, .junk, .junk, .junk, .junk, .junk, .junk, .junk, .junk, .junk, .junk, .junk, .junk, .junk, .junk, .junk, .junk, .junk, .junk, .junk, .junk, .junk, .junk, .junk, .junk, .junk, .junk, .junk, .junk]
abbrev L_spec_l01From_3_ex : List (Nat × List Slot) := [(0, L_spec_l01From_3_e0)]
abbrev L_spec_l01From_3_rt : List Slot := [.junk, .junk, .junk, .junk, .junk, .junk, .junk, .junk, .junk, .junk, .junk, .junk, .junk, .junk, .junk, .junk, .junk, .junk, .junk, .junk, .junk, .junk, .junk, .junk, .junk, .junk, .junk, .junk, .junk, .junk, .junk, .junk, .junk, .junk, .junk, .junk, .junk, .junk]

def L_spec_l01From_3_b (Φ : Post) (u : (Value × Value)) (N : (Value × Value) → Int → World → Prop) (s : Int) (w : World) : Prop :=
  B_spec_l01From_3 u.1 u.2 s N (fun v w => ∀ j : Nat → Value, Φ (.exit 0) (mkT j 0 L_spec_l01From_3_e0 v) w) w

theorem L_spec_l01From_3_eq (j : Nat → Value) (u : (Value × Value)) (s : Int) (N : (Value × Value) → Int → World → Prop) (D0 : (Value × Unit) → World → Prop) (R : (Unit) → World → Prop) (w : World) :
    W Try.prog ty (fun _ _ _ _ => False) (loopAt Try.f56 3) (loopPost L_spec_l01From_3_sp [(0, (⟨L_spec_l01From_3_e0, D0⟩ : Door))] ⟨L_spec_l01From_3_rt, R⟩ (fun v w => N ((fun v => (v.1, v.2.1)) v) ((fun v => v.2.2.1) v) w)) (mkT j 0 L_spec_l01From_3_sp ((fun u s => (u.1, u.2, s, ())) u s)) w =
    B_spec_l01From_3 u.1 u.2 s N D0 w := by
  kernel_rfl

def O_spec_l01From_1 : Code → Post → List SV → World → Prop :=
  orc 3 (loopAt Try.f56 3) L_spec_l01From_3_sp (fun Φ fr w => LOOP (U := (Value × Value)) (S := Int) ((fun v => (v.1, v.2.1)) (extT L_spec_l01From_3_sp fr)) (L_spec_l01From_3_b Φ ((fun v => (v.1, v.2.1)) (extT L_spec_l01From_3_sp fr))) ((fun v => v.2.2.1) (extT L_spec_l01From_3_sp fr)) w) (fun _ _ _ _ => False)

theorem O_spec_l01From_1_ok : Sound Try.prog O_spec_l01From_1 :=
  orc_ok (sound_none _) fun Φ fr w hs h => loop_ok (ty := ty) follows (sound_none _) L_spec_l01From_3_sp (fun v => (v.1, v.2.1)) (fun v => v.2.2.1) (fun u s => (u.1, u.2, s, ())) (fun _ => rfl) L_spec_l01From_3_ex L_spec_l01From_3_rt (body := L_spec_l01From_3_b Φ) (fun j u s w N hb => by
    have e := L_spec_l01From_3_eq j u s N (doorOf Φ (.exit 0) L_spec_l01From_3_e0).D (doorOf Φ .ret L_spec_l01From_3_rt).D w
    exact Eq.mpr e hb) hs h

def V_spec_l01From (code0 : Value) (w : World) (K : Value → World → Prop) : Prop :=
  (QAll Try.prog (Builtin.len_ #[22] 3 #[code0]) (.int .i64) fun (x7_1 : Int) => (QAll Try.prog (convert 3 85 (.int .i64 x7_1)) (.int .u64) fun (x8_2 : Int) => (Pr Try.prog (Instr.build 87 #[(0, code0), (2, (.int .u64 (IntKind.u64.wrap ((13621 : Int) + x8_2))))]) w (.one .any) fun (x10_4 : Value) w_3 => (Pr Try.prog (Instr.box 87 x10_4) w_3 (.one .any) fun (x11_6 : Value) w_5 => (At (loopAt Try.f56 3) (loopAt Try.f56 3) (LOOP (U := (Value × Value)) (S := Int) ((code0 : Value), (x11_6 : Value)) (fun N_20 s_21 w_22 => B_spec_l01From_3 (code0 : Value) (x11_6 : Value) s_21 N_20 (fun (v_17 : (Value × Unit)) w_18 => ∀ _j_19 : Nat → Value, K (v_17.1 : Value) w_18) w_22) (0 : Int) w_5))))))

theorem eq_spec_l01From (code0 : Value) (w : World) (K : Value → World → Prop) :
    W Try.prog ty O_spec_l01From_1 (bodyOf Try.f56) (fnPost Try.prog Try.f56.results.toList (.one .any) K) (frame0 [code0] 38) w = V_spec_l01From code0 w K := by
  kernel_rfl

theorem body_spec_l01From : Try.f56.body = some (bodyOf Try.f56) := by kernel_rfl
theorem name_spec_l01From : (Try.f56.name == "runtime.NumGoroutine") = false := by kernel_rfl

theorem walk_spec_l01From (code0 : Value) {w : World} {K : Value → World → Prop} (h : V_spec_l01From code0 w K) : Fc Try.prog 56 #[code0] w (.one .any) K :=
  fn_ok follows O_spec_l01From_1_ok Try.func56 name_spec_l01From body_spec_l01From Try.ntmps56 [code0] (Eq.mpr (eq_spec_l01From code0 w K) h)

-- uses S9Src
theorem c_spec_l01From {code : Value} {l : List Int} {w : World} {K : Value → World → Prop} (h : ArgB w code l) (hl : l.length ≤ 4096)
    (hK : ∀ b w', Src w w' b code l → K (ptr b 0) w') : Fc Try.prog F_spec_l01From #[code] w (.one .any) K := by
  obtain ⟨a, n, c, rfl, hnc⟩ := h.sl.ex
  refine walk_spec_l01From _ (lenB h (cvt (by rw [Try.underlying3]; rfl) Try.underlying85 ⟨_, _, buildSo _ _ _ _ w, box [_, _, _] rfl fun b w1 n1 => ?_⟩))
  have s1 : Src w w1 b (.slice a n c) l := ⟨h, hl, n1.below, by have := n1.here; omega, 0, _, n1.at_, by omega, by omega⟩
  refine lp (fun i w' => 0 ≤ i ∧ i ≤ 4096 ∧ Src w w' b (.slice a n c) l) (fun i _ => (4096 - i).toNat) ⟨by omega, by omega, s1⟩ ?_
  rintro i w2 N ⟨i0, i1, s2⟩ hN
  unfold B_spec_l01From_3
  refine lenB (s2.arg.keep s2.bel) ⟨fun hlt => ⟨fun hlt2 w8 hd => ?_, fun _ j => hK b _ s2⟩, fun _ j => hK b _ s2⟩
  have hlt := dec_t hlt
  have hlt2 := dec_t hlt2
  obtain ⟨at_, hh, hb, a0, a1⟩ := s2.ex
  have hb8 := blk_drew hd hb
  have s8 := s2.keep (hd.below _)
  refine ⟨.inl ⟨_, rfl⟩, fldp so2 (ld (k := .int .u64) yU (blk_cell hb8 rfl) (atB (s8.arg.keep s8.bel) i0 hlt fun x x0 x1 => cvt (by rw [Try.underlying5]; rfl) Try.underlying85 ⟨.inl ⟨_, rfl⟩, fldp so2 (st yU hb8 (by simp) rfl fun w9 m9 e9 hb9 => ?_)⟩))⟩
  rw [wrap_small (by omega) (by omega)]
  refine hN _ _ ⟨by omega, by omega, ⟨s8.arg, s8.len, s8.bel.trans (m9.below s8.bel.size (by have := s8.le; simp; omega)), s8.le, at_, _, hb9, a0, a1⟩⟩ (by omega)

end Go.Proofs.Ytlbhpbaeokgmaaa

/- The reading of spec_l01Next, and its contract. No condition. -/
namespace Go.Proofs.Ytlbhpbaeokgmaaa
open Go Go.RowKit Eng Mem
set_option linter.unusedVariables false
set_option maxRecDepth 100000
def V_spec_l01Next (s0 : Value) (n1 : Int) (w : World) (K : Int → World → Prop) : Prop :=
  (((decide (n1 < (1 : Int))) = true → K (0 : Int) w) ∧ ((decide (n1 < (1 : Int))) = false → (NilOk s0 ∧ (QAll Try.prog (Instr.fieldAt 87 s0 2) .any fun (x11_1 : Value) => (QSub Try.prog (Instr.loadAt 85 x11_1) w (.int .u64) fun (x12_2 : Int) => (NilOk s0 ∧ (QAll Try.prog (Instr.fieldAt 87 s0 2) .any fun (x16_3 : Value) => (PrU Try.prog (Instr.storeAt 85 x16_3 (.int .u64 (IntKind.u64.wrap ((IntKind.u64.wrap (x12_2 * (6364136223846793005 : Int))) + (1442695040888963407 : Int))))) w fun w_4 => (NilOk s0 ∧ (QAll Try.prog (Instr.fieldAt 87 s0 2) .any fun (x19_6 : Value) => (QSub Try.prog (Instr.loadAt 85 x19_6) w_4 (.int .u64) fun (x20_7 : Int) => (0 ≤ (33 : Int) ∧ (QAll Try.prog (convert 85 2 (.int .u64 (IntKind.u64.wrap ((BitVec.toNat (BitVec.ofInt (IntKind.bits .u64) (Int.fdiv x20_7 (2 ^ min (Int.toNat (33 : Int)) 64)) &&& BitVec.ofInt (IntKind.bits .u64) (16777215 : Int)) : Nat))))) (.int .i64) fun (x23_8 : Int) => (∀ w_9, Drew w_4 w_9 → (NilOk s0 ∧ (QAll Try.prog (Instr.fieldAt 87 s0 1) .any fun (x26_10 : Value) => (QSub Try.prog (Instr.loadAt 3 x26_10) w_9 (.int .i64) fun (x27_11 : Int) => (NilOk s0 ∧ (QAll Try.prog (Instr.fieldAt 87 s0 0) .any fun (x30_12 : Value) => (QSub Try.prog (Instr.loadAt 22 x30_12) w_9 .any fun (x31_13 : Value) => (QAll Try.prog (Builtin.len_ #[22] 3 #[x31_13]) (.int .i64) fun (x32_14 : Int) => (((decide (x27_11 < x32_14)) = true → (∀ w_15, Drew w_9 w_15 → (NilOk s0 ∧ (QAll Try.prog (Instr.fieldAt 87 s0 0) .any fun (x37_16 : Value) => (QSub Try.prog (Instr.loadAt 22 x37_16) w_15 .any fun (x38_17 : Value) => (NilOk s0 ∧ (QAll Try.prog (Instr.fieldAt 87 s0 1) .any fun (x41_18 : Value) => (QSub Try.prog (Instr.loadAt 3 x41_18) w_15 (.int .i64) fun (x42_19 : Int) => (QAll Try.prog (Instr.indexAt 22 x38_17 (.int .i64 x42_19)) .any fun (x43_20 : Value) => (QSub Try.prog (Instr.loadAt 5 x43_20) w_15 (.int .u8) fun (x44_21 : Int) => (QAll Try.prog (convert 5 2 (.int .u8 x44_21)) (.int .i64) fun (x45_22 : Int) => (NilOk s0 ∧ (QAll Try.prog (Instr.fieldAt 87 s0 1) .any fun (x50_23 : Value) => (QSub Try.prog (Instr.loadAt 3 x50_23) w_15 (.int .i64) fun (x51_24 : Int) => (NilOk s0 ∧ (QAll Try.prog (Instr.fieldAt 87 s0 1) .any fun (x54_25 : Value) => (PrU Try.prog (Instr.storeAt 3 x54_25 (.int .i64 (IntKind.i64.wrap (x51_24 + (1 : Int))))) w_15 fun w_26 => (n1 ≠ 0 ∧ K (Int.tmod (IntKind.i64.wrap (x23_8 + x45_22)) n1) w_26)))))))))))))))))) ∧ ((decide (x27_11 < x32_14)) = false → (n1 ≠ 0 ∧ K (Int.tmod x23_8 n1) w_9))))))))))))))))))))))))

theorem eq_spec_l01Next (s0 : Value) (n1 : Int) (w : World) (K : Int → World → Prop) :
    W Try.prog ty (fun _ _ _ _ => False) (bodyOf Try.f55) (fnPost Try.prog Try.f55.results.toList (.one (.int .i64)) K) (frame0 [s0, (.int .i64 n1)] 58) w = V_spec_l01Next s0 n1 w K := by
  kernel_rfl

theorem body_spec_l01Next : Try.f55.body = some (bodyOf Try.f55) := by kernel_rfl
theorem name_spec_l01Next : (Try.f55.name == "runtime.NumGoroutine") = false := by kernel_rfl

theorem walk_spec_l01Next (s0 : Value) (n1 : Int) {w : World} {K : Int → World → Prop} (h : V_spec_l01Next s0 n1 w K) : Fc Try.prog 55 #[s0, (.int .i64 n1)] w (.one (.int .i64)) K :=
  fn_ok follows (sound_none _) Try.func55 name_spec_l01Next body_spec_l01Next Try.ntmps55 [s0, (.int .i64 n1)] (Eq.mpr (eq_spec_l01Next s0 n1 w K) h)

-- uses S9Src
theorem c_spec_l01Next {w0 : World} {b : Nat} {code : Value} {l : List Int} {n : Int} {w : World} {K : Int → World → Prop} (hs : Src w0 w b code l)
    (hK : ∀ w' r, Mod [b] w w' → Src w0 w' b code l → 0 ≤ r → (1 ≤ n → r < n) → (n < 1 → r = 0) → K r w') : Fc Try.prog F_spec_l01Next #[ptr b 0, .int .i64 n] w (.one (.int .i64)) K := by
  obtain ⟨a, h, hb, a0, a1⟩ := hs.ex
  have hle := hs.le
  have hl := hs.len
  refine walk_spec_l01Next _ _ ⟨fun hn => hK w 0 (Mod.refl _ _) hs (by omega) (fun h => h) (fun _ => rfl), fun hn => ?_⟩
  have hn : ¬ n < 1 := dec_f hn
  refine ⟨.inl ⟨_, rfl⟩, fldp so2 (ld (k := .int .u64) yU (blk_cell hb rfl) ⟨.inl ⟨_, rfl⟩, fldp so2 (st yU hb (by simp) rfl fun w4 m4 e4 hb4 => ⟨.inl ⟨_, rfl⟩, fldp so2 (ld (k := .int .u64) yU (blk_cell hb4 rfl) ⟨by omega, cvt (by rw [Try.underlying85]; rfl) Try.underlyingTI ?_⟩)⟩)⟩)⟩
  obtain ⟨x0, x1⟩ := and24 (Int.fdiv (IntKind.u64.wrap ((IntKind.u64.wrap (h * 6364136223846793005)) + 1442695040888963407)) (2 ^ min (Int.toNat 33) 64))
  revert x0 x1
  generalize IntKind.i64.wrap (IntKind.u64.wrap _) = X
  intro x0 x1 w9 hd
  have hb9 := blk_drew hd hb4
  have m9 : Mod [b] w w9 := m4.trans (mod_of_below (hd.below _) _)
  have s9 : Src w0 w9 b code l := ⟨hs.arg, hl, hs.bel.trans (m9.below hs.bel.size (by simp; omega)), hle, a, _, hb9, a0, a1⟩
  have g9 := s9.arg.keep s9.bel
  refine ⟨.inl ⟨_, rfl⟩, fldp so1 (ld (k := .int .i64) yN (blk_cell hb9 rfl) ⟨.inl ⟨_, rfl⟩, fldp so0 (ld (k := .any) y1SB (blk_cell hb9 rfl) (lenB g9 ⟨fun hlt w15 hd15 => ?_, fun hge => ?_⟩))⟩)⟩
  · have hlt := dec_t hlt
    have hb15 := blk_drew hd15 hb9
    have m15 : Mod [b] w w15 := m9.trans (mod_of_below (hd15.below _) _)
    have s15 := s9.keep (hd15.below _)
    have g15 := s15.arg.keep s15.bel
    refine ⟨.inl ⟨_, rfl⟩, fldp so0 (ld (k := .any) y1SB (blk_cell hb15 rfl) ⟨.inl ⟨_, rfl⟩, fldp so1 (ld (k := .int .i64) yN (blk_cell hb15 rfl) (atB g15 a0 hlt fun x y0 y1 => cvt (by rw [Try.underlying5]; rfl) Try.underlyingTI ⟨.inl ⟨_, rfl⟩, fldp so1 (ld (k := .int .i64) yN (blk_cell hb15 rfl) ⟨.inl ⟨_, rfl⟩, fldp so1 (st yN hb15 (by simp) rfl fun w26 m26 e26 hb26 => ?_)⟩)⟩))⟩)⟩
    rw [wrap_small (n := x) (by omega) (by omega), wrap_small (n := X + x) (by omega) (by omega)]
    rw [wrap_small (n := a + 1) (by omega) (by omega)] at hb26
    have tb := tm_bd (x := X + x) (n := n) (by omega) (by omega)
    refine ⟨by omega, hK w26 _ (m15.trans m26) ⟨hs.arg, hl, s15.bel.trans (m26.below s15.bel.size (by simp; omega)), hle, a + 1, _, hb26, by omega, by omega⟩ tb.1 (fun _ => tb.2) (fun h => absurd h hn)⟩
  · have tb := tm_bd (x := X) (n := n) x0 (by omega)
    exact ⟨by omega, hK w9 _ m9 s9 tb.1 (fun _ => tb.2) (fun h => absurd h hn)⟩

end Go.Proofs.Ytlbhpbaeokgmaaa

/- The reading of spec_l01Pick, and its contract. No condition. -/
namespace Go.Proofs.Ytlbhpbaeokgmaaa
open Go Go.RowKit Eng Mem
set_option linter.unusedVariables false
set_option maxRecDepth 100000
def V_spec_l01Pick (s0 : Value) (list1 : Value) (w : World) (K : Int → World → Prop) : Prop :=
  (QAll Try.prog (Builtin.len_ #[24] 3 #[list1]) (.int .i64) fun (x8_1 : Int) => (Fc Try.prog 55 #[s0, (.int .i64 x8_1)] w (.one (.int .i64)) fun (x9_3 : Int) w_2 => (QAll Try.prog (Instr.indexAt 24 list1 (.int .i64 x9_3)) .any fun (x10_4 : Value) => (QSub Try.prog (Instr.loadAt 2 x10_4) w_2 (.int .i64) fun (x11_5 : Int) => K x11_5 w_2))))

theorem eq_spec_l01Pick (s0 : Value) (list1 : Value) (w : World) (K : Int → World → Prop) :
    W Try.prog ty (fun _ _ _ _ => False) (bodyOf Try.f69) (fnPost Try.prog Try.f69.results.toList (.one (.int .i64)) K) (frame0 [s0, list1] 12) w = V_spec_l01Pick s0 list1 w K := by
  kernel_rfl

theorem body_spec_l01Pick : Try.f69.body = some (bodyOf Try.f69) := by kernel_rfl
theorem name_spec_l01Pick : (Try.f69.name == "runtime.NumGoroutine") = false := by kernel_rfl

theorem walk_spec_l01Pick (s0 : Value) (list1 : Value) {w : World} {K : Int → World → Prop} (h : V_spec_l01Pick s0 list1 w K) : Fc Try.prog 69 #[s0, list1] w (.one (.int .i64)) K :=
  fn_ok follows (sound_none _) Try.func69 name_spec_l01Pick body_spec_l01Pick Try.ntmps69 [s0, list1] (Eq.mpr (eq_spec_l01Pick s0 list1 w K) h)

-- uses S9Src
theorem c_spec_l01Pick {w0 : World} {b q : Nat} {code v : Value} {l m : List Int} {w : World} {K : Int → World → Prop} (hs : Src w0 w b code l) (ho : OwnI w q v m) (hq : q ≠ b) (hm : m ≠ []) (hml : m.length ≤ 1000)
    (hK : ∀ w' r, Mod [b] w w' → Src w0 w' b code l → r ∈ m → K r w') : Fc Try.prog F_spec_l01Pick #[ptr b 0, v] w (.one (.int .i64)) K := by
  have h0 : 0 < m.length := List.length_pos_iff.2 hm
  refine walk_spec_l01Pick _ _ (lenI (own_slI ho (by omega)) (c_spec_l01Next hs fun w2 r m2 s2 r0 r1 _ => ?_))
  have r1 := r1 (by omega)
  refine atI (own_slI (ho.mod m2 (by simpa using hq)) (by omega)) r0 r1 (hK w2 _ m2 s2 ?_)
  have hi : r.toNat < m.length := by omega
  rw [List.getD_eq_getElem?_getD, List.getElem?_eq_getElem hi]
  exact List.getElem_mem hi

end Go.Proofs.Ytlbhpbaeokgmaaa

/- The reading of spec_l01Near, and its contract. No condition. -/
namespace Go.Proofs.Ytlbhpbaeokgmaaa
open Go Go.RowKit Eng Mem
set_option linter.unusedVariables false
set_option maxRecDepth 100000
def V_spec_l01Near (s0 : Value) (most1 : Int) (w : World) (K : Int → World → Prop) : Prop :=
  (Fc Try.prog 55 #[s0, (.int .i64 (14 : Int))] w (.one (.int .i64)) fun (x6_2 : Int) w_1 => (((x6_2 == (0 : Int)) = true → (Pr Try.prog (Instr.buildSlice 24 4 #[(0, (.int .i64 (-1 : Int))), (1, (.int .i64 (IntKind.i64.wrap (most1 + (1 : Int))))), (2, (.int .i64 (1099511627776 : Int))), (3, (.int .i64 (-4611686018427387904 : Int)))]) w_1 (.one .any) fun (x11_4 : Value) w_3 => (Fc Try.prog 69 #[s0, x11_4] w_3 (.one (.int .i64)) fun (x12_6 : Int) w_5 => K x12_6 w_5))) ∧ ((x6_2 == (0 : Int)) = false → (Fc Try.prog 55 #[s0, (.int .i64 (IntKind.i64.wrap (most1 + (1 : Int))))] w_1 (.one (.int .i64)) fun (x16_8 : Int) w_7 => K x16_8 w_7))))

theorem eq_spec_l01Near (s0 : Value) (most1 : Int) (w : World) (K : Int → World → Prop) :
    W Try.prog ty (fun _ _ _ _ => False) (bodyOf Try.f75) (fnPost Try.prog Try.f75.results.toList (.one (.int .i64)) K) (frame0 [s0, (.int .i64 most1)] 17) w = V_spec_l01Near s0 most1 w K := by
  kernel_rfl

theorem body_spec_l01Near : Try.f75.body = some (bodyOf Try.f75) := by kernel_rfl
theorem name_spec_l01Near : (Try.f75.name == "runtime.NumGoroutine") = false := by kernel_rfl

theorem walk_spec_l01Near (s0 : Value) (most1 : Int) {w : World} {K : Int → World → Prop} (h : V_spec_l01Near s0 most1 w K) : Fc Try.prog 75 #[s0, (.int .i64 most1)] w (.one (.int .i64)) K :=
  fn_ok follows (sound_none _) Try.func75 name_spec_l01Near body_spec_l01Near Try.ntmps75 [s0, (.int .i64 most1)] (Eq.mpr (eq_spec_l01Near s0 most1 w K) h)

-- uses S9Src
theorem c_spec_l01Near {w0 : World} {b : Nat} {code : Value} {l : List Int} {n : Int} {w : World} {K : Int → World → Prop} (hs : Src w0 w b code l) (n0 : 0 ≤ n) (n1 : n ≤ 1000)
    (hK : ∀ w' r, Mod [b] w w' → Src w0 w' b code l → I64 r → K r w') : Fc Try.prog F_spec_l01Near #[ptr b 0, .int .i64 n] w (.one (.int .i64)) K := by
  refine walk_spec_l01Near _ _ (c_spec_l01Next hs fun w1 r m1 s1 _ _ _ => ⟨fun _ => ?_, fun _ => ?_⟩)
  all_goals rw [wrap_small (by omega) (by omega)]
  · refine ofL4 _ _ _ _ fun q v w2 hq q2 o2 => c_spec_l01Pick (s1.keep q2) o2 (by have := s1.lt; omega) (by simp) (by simp) fun w3 r m3 s3 hr => ?_
    refine hK w3 r ((m1.trans (mod_of_below q2 _)).trans m3) s3 ?_
    simp only [List.mem_cons, List.not_mem_nil, or_false] at hr
    rcases hr with h | h | h | h <;> omega
  · refine c_spec_l01Next s1 fun w2 r m2 s2 r0 r1 _ => hK w2 r (m1.trans m2) s2 (by have := r1 (by omega); omega)

end Go.Proofs.Ytlbhpbaeokgmaaa

/- The reading of spec_l07Numbers, and its contract. No condition. -/
namespace Go.Proofs.Ytlbhpbaeokgmaaa
open Go Go.RowKit Eng Mem
set_option linter.unusedVariables false
set_option maxRecDepth 100000
def V_spec_l07Numbers (code0 : Value) (most1 : Int) (w : World) (K : (Int × Int × Int) → World → Prop) : Prop :=
  (Fc Try.prog 56 #[code0] w (.one .any) fun (x10_2 : Value) w_1 => (Fc Try.prog 75 #[x10_2, (.int .i64 most1)] w_1 (.one (.int .i64)) fun (x13_4 : Int) w_3 => (Pr Try.prog (Instr.buildSlice 24 7 #[(0, (.int .i64 (1 : Int))), (1, (.int .i64 (2 : Int))), (2, (.int .i64 (2 : Int))), (3, (.int .i64 (3 : Int))), (4, (.int .i64 (3 : Int))), (5, (.int .i64 (0 : Int))), (6, (.int .i64 (4 : Int)))]) w_3 (.one .any) fun (x16_6 : Value) w_5 => (Fc Try.prog 69 #[x10_2, x16_6] w_5 (.one (.int .i64)) fun (x17_8 : Int) w_7 => (Pr Try.prog (Instr.buildSlice 24 8 #[(0, (.int .i64 (0 : Int))), (1, (.int .i64 (0 : Int))), (2, (.int .i64 (1 : Int))), (3, (.int .i64 (1 : Int))), (4, (.int .i64 (2 : Int))), (5, (.int .i64 (2 : Int))), (6, (.int .i64 (-1 : Int))), (7, (.int .i64 (3 : Int)))]) w_7 (.one .any) fun (x19_10 : Value) w_9 => (Fc Try.prog 69 #[x10_2, x19_10] w_9 (.one (.int .i64)) fun (x20_12 : Int) w_11 => K (x13_4, x17_8, x20_12) w_11))))))

theorem eq_spec_l07Numbers (code0 : Value) (most1 : Int) (w : World) (K : (Int × Int × Int) → World → Prop) :
    W Try.prog ty (fun _ _ _ _ => False) (bodyOf Try.f48) (fnPost Try.prog Try.f48.results.toList (.three (.int .i64) (.int .i64) (.int .i64)) K) (frame0 [code0, (.int .i64 most1)] 21) w = V_spec_l07Numbers code0 most1 w K := by
  kernel_rfl

theorem body_spec_l07Numbers : Try.f48.body = some (bodyOf Try.f48) := by kernel_rfl
theorem name_spec_l07Numbers : (Try.f48.name == "runtime.NumGoroutine") = false := by kernel_rfl

theorem walk_spec_l07Numbers (code0 : Value) (most1 : Int) {w : World} {K : (Int × Int × Int) → World → Prop} (h : V_spec_l07Numbers code0 most1 w K) : Fc Try.prog 48 #[code0, (.int .i64 most1)] w (.three (.int .i64) (.int .i64) (.int .i64)) K :=
  fn_ok follows (sound_none _) Try.func48 name_spec_l07Numbers body_spec_l07Numbers Try.ntmps48 [code0, (.int .i64 most1)] (Eq.mpr (eq_spec_l07Numbers code0 most1 w K) h)

-- uses S9Src
theorem c_spec_l07Numbers {code : Value} {l : List Int} {n : Int} {w : World} {K : Int × Int × Int → World → Prop} (h : ArgB w code l) (hl : l.length ≤ 4096) (n0 : 0 ≤ n) (n1 : n ≤ 1000)
    (hK : ∀ w' a b c, Below w.heap.size w w' → I64 a → I64 b → I64 c → K (a, b, c) w') : Fc Try.prog F_spec_l07Numbers #[code, .int .i64 n] w (.three (.int .i64) (.int .i64) (.int .i64)) K := by
  refine walk_spec_l07Numbers _ _ (c_spec_l01From h hl fun b w1 s1 => c_spec_l01Near s1 n0 n1 fun w2 x m2 s2 hx => ?_)
  refine ofL7 _ _ _ _ _ _ _ fun q v w3 hq q3 o3 => c_spec_l01Pick (s2.keep q3) o3 (by have := s2.lt; omega) (by simp) (by simp) fun w4 y m4 s4 hy => ?_
  refine ofL8 _ _ _ _ _ _ _ _ fun q v w5 hq q5 o5 => c_spec_l01Pick (s4.keep q5) o5 (by have := s4.lt; omega) (by simp) (by simp) fun w6 z m6 s6 hz => ?_
  refine hK w6 x y z s6.bel hx ?_ ?_
  · simp only [List.mem_cons, List.not_mem_nil, or_false] at hy
    rcases hy with h | h | h | h | h | h | h <;> omega
  · simp only [List.mem_cons, List.not_mem_nil, or_false] at hz
    rcases hz with h | h | h | h | h | h | h | h <;> omega

end Go.Proofs.Ytlbhpbaeokgmaaa

/- The reading of spec_DrawCountFree, and its contract. No condition. -/
namespace Go.Proofs.Ytlbhpbaeokgmaaa
open Go Go.RowKit Eng Mem
set_option linter.unusedVariables false
set_option maxRecDepth 100000
def V_spec_DrawCountFree (code0 : Value) (w : World) (K : (Int × Int × Int) → World → Prop) : Prop :=
  (Fc Try.prog 48 #[code0, (.int .i64 (12 : Int))] w (.three (.int .i64) (.int .i64) (.int .i64)) fun (x10_2 : Int × Int × Int) w_1 => (((decide (x10_2.1 > (9 : Int))) = true → (Fc Try.prog 56 #[code0] w_1 (.one .any) fun (x18_4 : Value) w_3 => (Fc Try.prog 55 #[x18_4, (.int .i64 (3 : Int))] w_3 (.one (.int .i64)) fun (x19_6 : Int) w_5 => (((decide (x19_6 > (0 : Int))) = true → K ((IntKind.i64.wrap (x10_2.1 - (4 : Int))), x10_2.2.1, x10_2.2.2) w_5) ∧ ((decide (x19_6 > (0 : Int))) = false → K (x10_2.1, x10_2.2.1, x10_2.2.2) w_5))))) ∧ ((decide (x10_2.1 > (9 : Int))) = false → K (x10_2.1, x10_2.2.1, x10_2.2.2) w_1)))

theorem eq_spec_DrawCountFree (code0 : Value) (w : World) (K : (Int × Int × Int) → World → Prop) :
    W Try.prog ty (fun _ _ _ _ => False) (bodyOf Try.f22) (fnPost Try.prog Try.f22.results.toList (.three (.int .i64) (.int .i64) (.int .i64)) K) (frame0 [code0] 27) w = V_spec_DrawCountFree code0 w K := by
  kernel_rfl

theorem body_spec_DrawCountFree : Try.f22.body = some (bodyOf Try.f22) := by kernel_rfl
theorem name_spec_DrawCountFree : (Try.f22.name == "runtime.NumGoroutine") = false := by kernel_rfl

theorem walk_spec_DrawCountFree (code0 : Value) {w : World} {K : (Int × Int × Int) → World → Prop} (h : V_spec_DrawCountFree code0 w K) : Fc Try.prog 22 #[code0] w (.three (.int .i64) (.int .i64) (.int .i64)) K :=
  fn_ok follows (sound_none _) Try.func22 name_spec_DrawCountFree body_spec_DrawCountFree Try.ntmps22 [code0] (Eq.mpr (eq_spec_DrawCountFree code0 w K) h)

-- uses S9Src
theorem c_spec_DrawCountFree {code : Value} {l : List Int} {w : World} {K : Int × Int × Int → World → Prop} (h : ArgB w code l) (hl : l.length ≤ 4096)
    (hK : ∀ w' a b c, Below w.heap.size w w' → I64 a → I64 b → I64 c → K (a, b, c) w') : Fc Try.prog F_spec_DrawCountFree #[code] w (.three (.int .i64) (.int .i64) (.int .i64)) K := by
  refine walk_spec_DrawCountFree _ (c_spec_l07Numbers h hl (by omega) (by omega) fun w1 a b c q1 ha hb hc => ⟨fun h9 => ?_, fun _ => hK w1 a b c q1 ha hb hc⟩)
  have h9 := dec_t h9
  refine c_spec_l01From (h.keep q1) hl fun e w2 s2 => c_spec_l01Next s2 fun w3 r m3 s3 _ _ _ => ⟨fun _ => ?_, fun _ => hK w3 a b c (q1.trans (s3.bel.mono q1.size)) ha hb hc⟩
  simp only at h9
  rw [wrap_small (by omega) (by omega)]
  exact hK w3 _ b c (q1.trans (s3.bel.mono q1.size)) (by omega) hb hc

end Go.Proofs.Ytlbhpbaeokgmaaa

/- The reading of spec_l07Draw, and its contract. No condition. -/
namespace Go.Proofs.Ytlbhpbaeokgmaaa
open Go Go.RowKit Eng Mem
set_option linter.unusedVariables false
set_option maxRecDepth 100000
def B_spec_l07Draw_3 (s0 : Value) (k7 : Int) (kind8 : Int) (part9 : Value) (n10 : Int) (N : (Value × Int × Int) → (Value × Int) → World → Prop) (D0 : (Int × Int × Value × Unit) → World → Prop) (w : World) : Prop :=
  (((decide (n10 > (0 : Int))) = true → (Fc Try.prog 44 #[(.int .i64 k7), part9, (.int .i64 kind8)] w (.one .any) fun (x29_12 : Value) w_11 => (QAll Try.prog (Builtin.len_ #[24] 3 #[x29_12]) (.int .i64) fun (x31_13 : Int) => (((x31_13 == (0 : Int)) = true → (Fc Try.prog 55 #[s0, (.int .i64 k7)] w_11 (.one (.int .i64)) fun (x41_15 : Int) w_14 => (Pr Try.prog (Instr.buildSlice 24 1 #[(0, (.int .i64 x41_15))]) w_14 (.one .any) fun (x42_17 : Value) w_16 => (Pr Try.prog (Builtin.append_ #[24, 24] 24 #[part9, x42_17]) w_16 (.one .any) fun (x43_19 : Value) w_18 => N ((s0 : Value), k7, kind8) ((x43_19 : Value), (IntKind.i64.wrap (n10 - (1 : Int)))) w_18)))) ∧ ((x31_13 == (0 : Int)) = false → (Fc Try.prog 55 #[s0, (.int .i64 (20 : Int))] w_11 (.one (.int .i64)) fun (x35_21 : Int) w_20 => (((x35_21 == (0 : Int)) = true → (Fc Try.prog 55 #[s0, (.int .i64 k7)] w_20 (.one (.int .i64)) fun (x41_23 : Int) w_22 => (Pr Try.prog (Instr.buildSlice 24 1 #[(0, (.int .i64 x41_23))]) w_22 (.one .any) fun (x42_25 : Value) w_24 => (Pr Try.prog (Builtin.append_ #[24, 24] 24 #[part9, x42_25]) w_24 (.one .any) fun (x43_27 : Value) w_26 => N ((s0 : Value), k7, kind8) ((x43_27 : Value), (IntKind.i64.wrap (n10 - (1 : Int)))) w_26)))) ∧ ((x35_21 == (0 : Int)) = false → (QAll Try.prog (Builtin.len_ #[24] 3 #[x29_12]) (.int .i64) fun (x48_28 : Int) => (Fc Try.prog 55 #[s0, (.int .i64 x48_28)] w_20 (.one (.int .i64)) fun (x49_30 : Int) w_29 => (QAll Try.prog (Instr.indexAt 24 x29_12 (.int .i64 x49_30)) .any fun (x50_31 : Value) => (QSub Try.prog (Instr.loadAt 2 x50_31) w_29 (.int .i64) fun (x51_32 : Int) => (Pr Try.prog (Instr.buildSlice 24 1 #[(0, (.int .i64 x51_32))]) w_29 (.one .any) fun (x52_34 : Value) w_33 => (Pr Try.prog (Builtin.append_ #[24, 24] 24 #[part9, x52_34]) w_33 (.one .any) fun (x53_36 : Value) w_35 => N ((s0 : Value), k7, kind8) ((x53_36 : Value), (IntKind.i64.wrap (n10 - (1 : Int)))) w_35)))))))))))))) ∧ ((decide (n10 > (0 : Int))) = false → D0 (k7, kind8, (part9 : Value), ()) w))

abbrev L_spec_l07Draw_3_e0 : List Slot := [.junk, .junk, .junk, .junk, .junk, .junk, .junk, .k (.int .i64), .k (.int .i64), .k .any, .junk, .junk, .junk, .junk, .junk, .junk, .junk, .junk, .junk, .junk, .junk, .junk, .junk, .junk, .junk, .junk, .junk, .junk, .junk, .junk, .junk, .junk, .junk, .junk, .junk, .junk, .junk, .junk, .junk, .junk, .junk, .junk, .junk, .junk, .junk, .junk, .junk, .junk, .junk, .junk, .junk, .junk, .junk, .junk, .junk, .junk, .junk]

abbrev L_spec_l07Draw_3_sp : List Slot := [.k .any, .junk, .junk, .junk, .junk, .junk, .junk, .k (.int .i64), .k (.int .i64), .k .any, .k (.int .i64), .junk, .junk, .junk, .junk, .junk, .junk, .junk, .junk, .junk, .junk, .junk, .junk, .junk, .junk, .junk, .junk, .junk, .junk, .junk, .junk, .junk, .junk, .junk, .junk, .junk, .junk, .junk, .junk, .junk, .junk, .junk, .junk, .junk, .junk, .junk, .junk, .junk, .junk, .junk, .junk, .junk, .junk, .junk, .junk, .junk, .junk]
abbrev L_spec_l07Draw_3_ex : List (Nat × List Slot) := [(0, L_spec_l07Draw_3_e0)]
abbrev L_spec_l07Draw_3_rt : List Slot := [.junk, .junk, .junk, .junk, .junk, .junk, .junk, .junk, .junk, .junk, .junk, .junk, .junk, .junk, .junk, .junk, .junk, .junk, .junk, .junk, .junk, .junk, .junk, .junk, .junk, .junk, .junk, .junk, .junk, .junk, .junk, .junk, .junk, .junk, .junk, .junk, .junk, .junk, .junk, .junk, .junk, .junk, .junk, .junk, .junk, .junk, .junk, .junk, .junk, .junk, .junk, .junk, .junk, .junk, .junk, .junk, .junk]

def L_spec_l07Draw_3_b (Φ : Post) (u : (Value × Int × Int)) (N : (Value × Int × Int) → (Value × Int) → World → Prop) (s : (Value × Int)) (w : World) : Prop :=
  B_spec_l07Draw_3 u.1 u.2.1 u.2.2 s.1 s.2 N (fun v w => ∀ j : Nat → Value, Φ (.exit 0) (mkT j 0 L_spec_l07Draw_3_e0 v) w) w

theorem L_spec_l07Draw_3_eq (j : Nat → Value) (u : (Value × Int × Int)) (s : (Value × Int)) (N : (Value × Int × Int) → (Value × Int) → World → Prop) (D0 : (Int × Int × Value × Unit) → World → Prop) (R : (Unit) → World → Prop) (w : World) :
    W Try.prog ty (fun _ _ _ _ => False) (loopAt Try.f68 3) (loopPost L_spec_l07Draw_3_sp [(0, (⟨L_spec_l07Draw_3_e0, D0⟩ : Door))] ⟨L_spec_l07Draw_3_rt, R⟩ (fun v w => N ((fun v => (v.1, v.2.1, v.2.2.1)) v) ((fun v => (v.2.2.2.1, v.2.2.2.2.1)) v) w)) (mkT j 0 L_spec_l07Draw_3_sp ((fun u s => (u.1, u.2.1, u.2.2, s.1, s.2, ())) u s)) w =
    B_spec_l07Draw_3 u.1 u.2.1 u.2.2 s.1 s.2 N D0 w := by
  kernel_rfl

def O_spec_l07Draw_1 : Code → Post → List SV → World → Prop :=
  orc 3 (loopAt Try.f68 3) L_spec_l07Draw_3_sp (fun Φ fr w => LOOP (U := (Value × Int × Int)) (S := (Value × Int)) ((fun v => (v.1, v.2.1, v.2.2.1)) (extT L_spec_l07Draw_3_sp fr)) (L_spec_l07Draw_3_b Φ ((fun v => (v.1, v.2.1, v.2.2.1)) (extT L_spec_l07Draw_3_sp fr))) ((fun v => (v.2.2.2.1, v.2.2.2.2.1)) (extT L_spec_l07Draw_3_sp fr)) w) (fun _ _ _ _ => False)

theorem O_spec_l07Draw_1_ok : Sound Try.prog O_spec_l07Draw_1 :=
  orc_ok (sound_none _) fun Φ fr w hs h => loop_ok (ty := ty) follows (sound_none _) L_spec_l07Draw_3_sp (fun v => (v.1, v.2.1, v.2.2.1)) (fun v => (v.2.2.2.1, v.2.2.2.2.1)) (fun u s => (u.1, u.2.1, u.2.2, s.1, s.2, ())) (fun _ => rfl) L_spec_l07Draw_3_ex L_spec_l07Draw_3_rt (body := L_spec_l07Draw_3_b Φ) (fun j u s w N hb => by
    have e := L_spec_l07Draw_3_eq j u s N (doorOf Φ (.exit 0) L_spec_l07Draw_3_e0).D (doorOf Φ .ret L_spec_l07Draw_3_rt).D w
    exact Eq.mpr e hb) hs h

def V_spec_l07Draw (s0 : Value) (most1 : Int) (w : World) (K : (Int × Value × Int) → World → Prop) : Prop :=
  (Pr Try.prog (Instr.buildSlice 24 5 #[(0, (.int .i64 (1 : Int))), (1, (.int .i64 (2 : Int))), (2, (.int .i64 (2 : Int))), (3, (.int .i64 (3 : Int))), (4, (.int .i64 (3 : Int)))]) w (.one .any) fun (x13_2 : Value) w_1 => (Fc Try.prog 69 #[s0, x13_2] w_1 (.one (.int .i64)) fun (x14_4 : Int) w_3 => (Fc Try.prog 55 #[s0, (.int .i64 (3 : Int))] w_3 (.one (.int .i64)) fun (x16_6 : Int) w_5 => (Pr Try.prog (Instr.buildSlice 24 0 #[]) w_5 (.one .any) fun (x17_8 : Value) w_7 => (Fc Try.prog 55 #[s0, (.int .i64 (IntKind.i64.wrap (most1 + (1 : Int))))] w_7 (.one (.int .i64)) fun (x21_10 : Int) w_9 => (At (loopAt Try.f68 3) (loopAt Try.f68 3) (LOOP (U := (Value × Int × Int)) (S := (Value × Int)) ((s0 : Value), x14_4, x16_6) (fun N_40 s_41 w_42 => B_spec_l07Draw_3 (s0 : Value) x14_4 x16_6 s_41.1 s_41.2 N_40 (fun (v_37 : (Int × Int × Value × Unit)) w_38 => ∀ _j_39 : Nat → Value, K (v_37.1, (v_37.2.2.1 : Value), v_37.2.1) w_38) w_42) ((x17_8 : Value), x21_10) w_9)))))))

theorem eq_spec_l07Draw (s0 : Value) (most1 : Int) (w : World) (K : (Int × Value × Int) → World → Prop) :
    W Try.prog ty O_spec_l07Draw_1 (bodyOf Try.f68) (fnPost Try.prog Try.f68.results.toList (.three (.int .i64) .any (.int .i64)) K) (frame0 [s0, (.int .i64 most1)] 57) w = V_spec_l07Draw s0 most1 w K := by
  kernel_rfl

theorem body_spec_l07Draw : Try.f68.body = some (bodyOf Try.f68) := by kernel_rfl
theorem name_spec_l07Draw : (Try.f68.name == "runtime.NumGoroutine") = false := by kernel_rfl

theorem walk_spec_l07Draw (s0 : Value) (most1 : Int) {w : World} {K : (Int × Value × Int) → World → Prop} (h : V_spec_l07Draw s0 most1 w K) : Fc Try.prog 68 #[s0, (.int .i64 most1)] w (.three (.int .i64) .any (.int .i64)) K :=
  fn_ok follows O_spec_l07Draw_1_ok Try.func68 name_spec_l07Draw body_spec_l07Draw Try.ntmps68 [s0, (.int .i64 most1)] (Eq.mpr (eq_spec_l07Draw s0 most1 w K) h)

-- uses S9Src
theorem c_spec_l07Draw {w0 : World} {b : Nat} {code : Value} {l : List Int} {most : Int} {w : World} {K : Int × Value × Int → World → Prop} (hs : Src w0 w b code l) (m0 : 0 ≤ most) (m1 : most ≤ 40)
    (hK : ∀ w' k v kind q p, Mod [b] w w' → Src w0 w' b code l → w.heap.size ≤ q → OwnI w' q v p → p.length ≤ 40 → InI p → 1 ≤ k → k ≤ 3 → 0 ≤ kind → kind ≤ 2 → K (k, v, kind) w') : Fc Try.prog F_spec_l07Draw #[ptr b 0, .int .i64 most] w (.three (.int .i64) .any (.int .i64)) K := by
  have hb := hs.lt
  refine walk_spec_l07Draw _ _ (ofL5 _ _ _ _ _ fun q v w1 hq q1 o1 => c_spec_l01Pick (hs.keep q1) o1 (by omega) (by simp) (by simp) fun w2 k m2 s2 hk => c_spec_l01Next s2 fun w3 kind m3 s3 d0 d1 _ => nilI fun b4 v4 w4 hb4 q4 o4 => c_spec_l01Next (s3.keep q4) fun w5 n m5 s5 e0 e1 _ => ?_)
  rw [wrap_small (by omega) (by omega)] at e1
  have e1 := e1 (by omega)
  have d1 := d1 (by omega)
  have hk : 1 ≤ k ∧ k ≤ 3 := by
    simp only [List.mem_cons, List.not_mem_nil, or_false] at hk
    rcases hk with h | h | h | h | h <;> omega
  have z1 := q1.size; have z2 := m2.size; have z3 := m3.size; have z4 := q4.size; have z5 := m5.size
  have m15 : Mod [b] w w5 := ((((mod_of_below q1 _).trans m2).trans m3).trans (mod_of_below q4 _)).trans m5
  have o5 : OwnI w5 b4 v4 [] := o4.mod m5 (by simp; omega)
  refine lp (fun s w' => 0 ≤ s.2 ∧ s.2 ≤ n ∧ Mod [b] w w' ∧ Src w0 w' b code l ∧ ∃ q p, w.heap.size ≤ q ∧ OwnI w' q s.1 p ∧ (p.length : Int) + s.2 = n ∧ InI p) (fun s _ => s.2.toNat) ⟨e0, by simp, m15, s5, b4, [], by omega, o5, by simp, fun x hx => by cases hx⟩ ?_
  rintro ⟨v, i⟩ w6 N ⟨i0, i1, m6, s6, q, p, hq, o6, hl, hp⟩ hN
  simp only at i0 i1 o6 hl
  unfold B_spec_l07Draw_3
  have z6 := m6.size
  have hqb : q ≠ b := by omega
  -- one more number behind the part
  have more : ∀ x : Int, ∀ w7, Mod [b] w w7 → Src w0 w7 b code l → OwnI w7 q v p → 0 < i → I64 x → Pr Try.prog (Instr.buildSlice tSI 1 #[(0, .int .i64 x)]) w7 (.one .any) fun y w8 => Pr Try.prog (Builtin.append_ #[tSI, tSI] tSI #[v, y]) w8 (.one .any) fun z w9 => N (ptr b 0, k, kind) (z, IntKind.i64.wrap (i - 1)) w9 := by
    intro x w7 m7 s7 o7 hi hx
    have z7 := m7.size
    refine appI o7 (by omega) fun v' w9 q9 o9 m9 h9 => ?_
    have z9 := m9.size
    have hb7 := s7.lt
    have le7 := s7.le
    rw [wrap_small (by omega) (by omega)]
    refine hN _ _ ⟨by simp only; omega, by simp only; omega, m7.andThen m9 (by simp; omega), s7.mod m9 (by simpa using Ne.symm hqb) (by have := s7.bel.size; have := hs.bel.size; simp; omega), q9, p ++ [x], by omega, o9, ?_, ?_⟩ (by simp only; omega)
    · rw [List.length_append, List.length_singleton]; simp only; omega
    · intro y hy
      rcases List.mem_append.1 hy with hy | hy
      · exact hp y hy
      · have : y = x := by simpa using hy
        subst this; exact hx
  refine ⟨fun hi => ?_, fun hi _ => hK w6 k v kind q p m6 s6 hq o6 (by omega) hp hk.1 hk.2 d0 (by omega)⟩
  have hi : 0 < i := dec_t hi
  refine c_spec_l07Next (own_slI o6 (by omega)) (by omega) (by omega) hk.2 fun w7 y b7 hb7 q7 o7 => ?_
  have bd := nextL_bd p kind k.toNat
  have nl := nextL_len p kind k.toNat
  have m7 := m6.trans (mod_of_below q7 _)
  have s7 := s6.keep q7
  have o67 := o6.keep q7
  have z7 := q7.size
  have lt6 := s6.lt
  refine lenI (own_slI o7 (by omega)) ⟨fun h0 => ?_, fun h0 => ?_⟩
  · refine c_spec_l01Next s7 fun w8 x m8 s8 x0 x1 _ => more x w8 (m7.trans m8) s8 (o67.mod m8 (by simpa using hqb)) hi (by have := x1 (by omega); omega)
  · have h0 : ((nextL p kind k.toNat).length : Int) ≠ 0 := eq_f h0
    refine c_spec_l01Next s7 fun w8 c m8 s8 _ _ _ => ⟨fun _ => ?_, fun _ => ?_⟩
    · refine c_spec_l01Next s8 fun w9 x m9 s9 x0 x1 _ => more x w9 ((m7.trans m8).trans m9) s9 ((o67.mod m8 (by simpa using hqb)).mod m9 (by simpa using hqb)) hi (by have := x1 (by omega); omega)
    · have o8 := o7.mod m8 (by simp; omega)
      refine lenI (own_slI o8 (by omega)) (c_spec_l01Next s8 fun w9 x m9 s9 x0 x1 _ => ?_)
      have x1 := x1 (by omega)
      refine atI (own_slI (o8.mod m9 (by simp; omega)) (by omega)) x0 x1 (more _ w9 ((m7.trans m8).trans m9) s9 ((o67.mod m8 (by simpa using hqb)).mod m9 (by simpa using hqb)) hi ?_)
      have hx : x.toNat < (nextL p kind k.toNat).length := by omega
      have := bd _ (List.getElem_mem hx)
      rw [List.getD_eq_getElem?_getD, List.getElem?_eq_getElem hx]
      simp only [Option.getD_some]
      omega

end Go.Proofs.Ytlbhpbaeokgmaaa

/- The reading of spec_l07With, and its contract. No condition. -/
namespace Go.Proofs.Ytlbhpbaeokgmaaa
open Go Go.RowKit Eng Mem
set_option linter.unusedVariables false
set_option maxRecDepth 100000
def B_spec_l07With_11 (k6 : Int) (kind8 : Int) (part7 : Value) (N : (Int × Int) → Value → World → Prop) (D1 : (Int × Value × Int × Unit) → World → Prop) (w : World) : Prop :=
  (QAll Try.prog (Builtin.len_ #[24] 3 #[part7]) (.int .i64) fun (x44_27 : Int) => (((decide (x44_27 ≤ (40 : Int))) = true → (Pr Try.prog (Instr.buildSlice 24 1 #[(0, (.int .i64 (0 : Int)))]) w (.one .any) fun (x47_29 : Value) w_28 => (Pr Try.prog (Builtin.append_ #[24, 24] 24 #[part7, x47_29]) w_28 (.one .any) fun (x48_31 : Value) w_30 => N (k6, kind8) (x48_31 : Value) w_30))) ∧ ((decide (x44_27 ≤ (40 : Int))) = false → D1 (k6, (part7 : Value), kind8, ()) w)))

abbrev L_spec_l07With_11_e1 : List Slot := [.junk, .junk, .junk, .junk, .junk, .junk, .k (.int .i64), .k .any, .k (.int .i64), .junk, .junk, .junk, .junk, .junk, .junk, .junk, .junk, .junk, .junk, .junk, .junk, .junk, .junk, .junk, .junk, .junk, .junk, .junk, .junk, .junk, .junk, .junk, .junk, .junk, .junk, .junk, .junk, .junk, .junk, .junk, .junk, .junk, .junk, .junk, .junk, .junk, .junk, .junk, .junk, .junk, .junk, .junk]

abbrev L_spec_l07With_11_sp : List Slot := [.junk, .junk, .junk, .junk, .junk, .junk, .k (.int .i64), .k .any, .k (.int .i64), .junk, .junk, .junk, .junk, .junk, .junk, .junk, .junk, .junk, .junk, .junk, .junk, .junk, .junk, .junk, .junk, .junk, .junk, .junk, .junk, .junk, .junk, .junk, .junk, .junk, .junk, .junk, .junk, .junk, .junk, .junk, .junk, .junk, .junk, .junk, .junk, .junk, .junk, .junk, .junk, .junk, .junk, .junk]
abbrev L_spec_l07With_11_ex : List (Nat × List Slot) := [(1, L_spec_l07With_11_e1)]
abbrev L_spec_l07With_11_rt : List Slot := [.junk, .junk, .junk, .junk, .junk, .junk, .junk, .junk, .junk, .junk, .junk, .junk, .junk, .junk, .junk, .junk, .junk, .junk, .junk, .junk, .junk, .junk, .junk, .junk, .junk, .junk, .junk, .junk, .junk, .junk, .junk, .junk, .junk, .junk, .junk, .junk, .junk, .junk, .junk, .junk, .junk, .junk, .junk, .junk, .junk, .junk, .junk, .junk, .junk, .junk, .junk, .junk]

def L_spec_l07With_11_b (Φ : Post) (u : (Int × Int)) (N : (Int × Int) → Value → World → Prop) (s : Value) (w : World) : Prop :=
  B_spec_l07With_11 u.1 u.2 s N (fun v w => ∀ j : Nat → Value, Φ (.exit 1) (mkT j 0 L_spec_l07With_11_e1 v) w) w

theorem L_spec_l07With_11_eq (j : Nat → Value) (u : (Int × Int)) (s : Value) (N : (Int × Int) → Value → World → Prop) (D1 : (Int × Value × Int × Unit) → World → Prop) (R : (Unit) → World → Prop) (w : World) :
    W Try.prog ty (fun _ _ _ _ => False) (loopAt Try.f35 11) (loopPost L_spec_l07With_11_sp [(1, (⟨L_spec_l07With_11_e1, D1⟩ : Door))] ⟨L_spec_l07With_11_rt, R⟩ (fun v w => N ((fun v => (v.1, v.2.2.1)) v) ((fun v => v.2.1) v) w)) (mkT j 0 L_spec_l07With_11_sp ((fun u s => (u.1, s, u.2, ())) u s)) w =
    B_spec_l07With_11 u.1 u.2 s N D1 w := by
  kernel_rfl

def O_spec_l07With_1 : Code → Post → List SV → World → Prop :=
  orc 11 (loopAt Try.f35 11) L_spec_l07With_11_sp (fun Φ fr w => LOOP (U := (Int × Int)) (S := Value) ((fun v => (v.1, v.2.2.1)) (extT L_spec_l07With_11_sp fr)) (L_spec_l07With_11_b Φ ((fun v => (v.1, v.2.2.1)) (extT L_spec_l07With_11_sp fr))) ((fun v => v.2.1) (extT L_spec_l07With_11_sp fr)) w) (fun _ _ _ _ => False)

theorem O_spec_l07With_1_ok : Sound Try.prog O_spec_l07With_1 :=
  orc_ok (sound_none _) fun Φ fr w hs h => loop_ok (ty := ty) follows (sound_none _) L_spec_l07With_11_sp (fun v => (v.1, v.2.2.1)) (fun v => v.2.1) (fun u s => (u.1, s, u.2, ())) (fun _ => rfl) L_spec_l07With_11_ex L_spec_l07With_11_rt (body := L_spec_l07With_11_b Φ) (fun j u s w N hb => by
    have e := L_spec_l07With_11_eq j u s N (doorOf Φ (.exit 1) L_spec_l07With_11_e1).D (doorOf Φ .ret L_spec_l07With_11_rt).D w
    exact Eq.mpr e hb) hs h

def V_spec_l07With (code0 : Value) (w : World) (K : (Int × Value × Int) → World → Prop) : Prop :=
  (Fc Try.prog 56 #[code0] w (.one .any) fun (x10_2 : Value) w_1 => (Pr Try.prog (Instr.buildSlice 24 5 #[(0, (.int .i64 (4 : Int))), (1, (.int .i64 (8 : Int))), (2, (.int .i64 (13 : Int))), (3, (.int .i64 (22 : Int))), (4, (.int .i64 (40 : Int)))]) w_1 (.one .any) fun (x14_4 : Value) w_3 => (Fc Try.prog 69 #[x10_2, x14_4] w_3 (.one (.int .i64)) fun (x15_6 : Int) w_5 => (Fc Try.prog 68 #[x10_2, (.int .i64 x15_6)] w_5 (.three (.int .i64) .any (.int .i64)) fun (x16_8 : Int × Value × Int) w_7 => (Fc Try.prog 55 #[x10_2, (.int .i64 (24 : Int))] w_7 (.one (.int .i64)) fun (x21_10 : Int) w_9 => (((x21_10 == (0 : Int)) = true → (Pr Try.prog (Instr.buildSlice 24 3 #[(0, (.int .i64 (0 : Int))), (1, (.int .i64 (4 : Int))), (2, (.int .i64 (-1 : Int)))]) w_9 (.one .any) fun (x25_12 : Value) w_11 => (Fc Try.prog 69 #[x10_2, x25_12] w_11 (.one (.int .i64)) fun (x26_14 : Int) w_13 => K (x26_14, (x16_8.2.1 : Value), x16_8.2.2) w_13))) ∧ ((x21_10 == (0 : Int)) = false → (((x21_10 == (1 : Int)) = true → (Pr Try.prog (Instr.buildSlice 24 2 #[(0, (.int .i64 (-1 : Int))), (1, (.int .i64 (3 : Int)))]) w_9 (.one .any) fun (x30_16 : Value) w_15 => (Fc Try.prog 69 #[x10_2, x30_16] w_15 (.one (.int .i64)) fun (x31_18 : Int) w_17 => K (x16_8.1, (x16_8.2.1 : Value), x31_18) w_17))) ∧ ((x21_10 == (1 : Int)) = false → (((x21_10 == (2 : Int)) = true → (Pr Try.prog (Instr.buildSlice 24 2 #[(0, (.int .i64 (-1 : Int))), (1, (.int .i64 x16_8.1))]) w_9 (.one .any) fun (x37_20 : Value) w_19 => (Fc Try.prog 69 #[x10_2, x37_20] w_19 (.one (.int .i64)) fun (x38_22 : Int) w_21 => (Pr Try.prog (Instr.buildSlice 24 1 #[(0, (.int .i64 x38_22))]) w_21 (.one .any) fun (x39_24 : Value) w_23 => (Pr Try.prog (Builtin.append_ #[24, 24] 24 #[x16_8.2.1, x39_24]) w_23 (.one .any) fun (x40_26 : Value) w_25 => K (x16_8.1, (x40_26 : Value), x16_8.2.2) w_25))))) ∧ ((x21_10 == (2 : Int)) = false → (((x21_10 == (3 : Int)) = true → (At (loopAt Try.f35 11) (loopAt Try.f35 11) (LOOP (U := (Int × Int)) (S := Value) (x16_8.1, x16_8.2.2) (fun N_35 s_36 w_37 => B_spec_l07With_11 x16_8.1 x16_8.2.2 s_36 N_35 (fun (v_32 : (Int × Value × Int × Unit)) w_33 => ∀ _j_34 : Nat → Value, K (v_32.1, (v_32.2.1 : Value), v_32.2.2.1) w_33) w_37) (x16_8.2.1 : Value) w_9))) ∧ ((x21_10 == (3 : Int)) = false → K (x16_8.1, (x16_8.2.1 : Value), x16_8.2.2) w_9)))))))))))))

theorem eq_spec_l07With (code0 : Value) (w : World) (K : (Int × Value × Int) → World → Prop) :
    W Try.prog ty O_spec_l07With_1 (bodyOf Try.f35) (fnPost Try.prog Try.f35.results.toList (.three (.int .i64) .any (.int .i64)) K) (frame0 [code0] 52) w = V_spec_l07With code0 w K := by
  kernel_rfl

theorem body_spec_l07With : Try.f35.body = some (bodyOf Try.f35) := by kernel_rfl
theorem name_spec_l07With : (Try.f35.name == "runtime.NumGoroutine") = false := by kernel_rfl

theorem walk_spec_l07With (code0 : Value) {w : World} {K : (Int × Value × Int) → World → Prop} (h : V_spec_l07With code0 w K) : Fc Try.prog 35 #[code0] w (.three (.int .i64) .any (.int .i64)) K :=
  fn_ok follows O_spec_l07With_1_ok Try.func35 name_spec_l07With body_spec_l07With Try.ntmps35 [code0] (Eq.mpr (eq_spec_l07With code0 w K) h)

-- uses S9Src
theorem c_spec_l07With {code : Value} {l : List Int} {w : World} {K : Int × Value × Int → World → Prop} (h : ArgB w code l) (hl : l.length ≤ 4096)
    (hK : ∀ w' k v kind p, Below w.heap.size w w' → SlI w' v p → p.length ≤ 41 → InI p → I64 k → I64 kind → K (k, v, kind) w') : Fc Try.prog F_spec_l07With #[code] w (.three (.int .i64) .any (.int .i64)) K := by
  refine walk_spec_l07With _ (c_spec_l01From h hl fun b w1 s1 => ofL5 _ _ _ _ _ fun q v w2 hq q2 o2 => c_spec_l01Pick (s1.keep q2) o2 (by have := s1.lt; omega) (by simp) (by simp) fun w3 most m3 s3 hm => ?_)
  have hm : 0 ≤ most ∧ most ≤ 40 := by
    simp only [List.mem_cons, List.not_mem_nil, or_false] at hm
    rcases hm with h | h | h | h | h <;> omega
  refine c_spec_l07Draw s3 hm.1 hm.2 fun w4 k v kind q p m4 s4 hq o4 hp hi k0 k1 d0 d1 => c_spec_l01Next s4 fun w5 x m5 s5 _ _ _ => ?_
  have hqb : q ≠ b := by have := s3.lt; omega
  have o5 := o4.mod m5 (by simpa using hqb)
  have lt5 := s5.lt
  have le5 := s5.le
  have ls := s3.bel.size
  refine ⟨fun _ => ?_, fun _ => ⟨fun _ => ?_, fun _ => ⟨fun _ => ?_, fun _ => ⟨fun _ => ?_, fun _ => ?_⟩⟩⟩⟩
  · refine ofL3 _ _ _ fun e u w6 he q6 o6 => c_spec_l01Pick (s5.keep q6) o6 (by omega) (by simp) (by simp) fun w7 y m7 s7 hy => ?_
    refine hK w7 y v kind p s7.bel (own_slI ((o5.keep q6).mod m7 (by simpa using hqb)) (by omega)) (by omega) hi ?_ (by omega)
    simp only [List.mem_cons, List.not_mem_nil, or_false] at hy
    rcases hy with h | h | h <;> omega
  · refine ofL2 _ _ fun e u w6 he q6 o6 => c_spec_l01Pick (s5.keep q6) o6 (by omega) (by simp) (by simp) fun w7 y m7 s7 hy => ?_
    refine hK w7 k v y p s7.bel (own_slI ((o5.keep q6).mod m7 (by simpa using hqb)) (by omega)) (by omega) hi (by omega) ?_
    simp only [List.mem_cons, List.not_mem_nil, or_false] at hy
    rcases hy with h | h <;> omega
  · refine ofL2 _ _ fun e u w6 he q6 o6 => c_spec_l01Pick (s5.keep q6) o6 (by omega) (by simp) (by simp) fun w7 y m7 s7 hy => ?_
    have o7 := (o5.keep q6).mod m7 (by simpa using hqb)
    refine appI o7 (by omega) fun v' w9 q9 o9 m9 h9 => ?_
    refine hK w9 k v' kind (p ++ [y]) (s7.bel.trans (m9.below s7.bel.size (by simp; omega))) (own_slI o9 (by simp; omega)) (by simp; omega) ?_ (by omega) (by omega)
    intro z hz
    rcases List.mem_append.1 hz with hz | hz
    · exact hi z hz
    · have : z = y := by simpa using hz
      subst this
      simp only [List.mem_cons, List.not_mem_nil, or_false] at hy
      rcases hy with h | h <;> omega
  · refine lp (fun s w' => Below w.heap.size w w' ∧ ∃ q p, w.heap.size ≤ q ∧ OwnI w' q s p ∧ p.length ≤ 41 ∧ InI p) (fun s w' => 41 - (match s with | .slice _ n _ => n | _ => 0)) ⟨s5.bel, q, p, by omega, o5, by omega, hi⟩ ?_
    rintro u w6 N ⟨q6, e, p6, he, o6, hl6, hi6⟩ hN
    unfold B_spec_l07With_11
    have hlen : ∀ {w : World} {e : Nat} {u : Value} {p : List Int}, OwnI w e u p → (match u with | .slice _ n _ => n | _ => 0) = p.length := fun {w e u p} h => by
      obtain ⟨_, _, rfl, _⟩ := h.ex; rfl
    refine lenI (own_slI o6 (by omega)) ⟨fun hc => ?_, fun _ _ => hK w6 k u kind p6 q6 (own_slI o6 (by omega)) hl6 hi6 (by omega) (by omega)⟩
    have hc := dec_t hc
    have z6 := q6.size
    refine appI o6 (by omega) fun v' w9 q9 o9 m9 h9 => ?_
    refine hN _ _ ⟨q6.trans (m9.below z6 (by simp; omega)), q9, p6 ++ [0], by omega, o9, by simp; omega, ?_⟩ ?_
    · intro z hz
      rcases List.mem_append.1 hz with hz | hz
      · exact hi6 z hz
      · have : z = 0 := by simpa using hz
        omega
    · rw [hlen o9, hlen o6]
      simp; omega
  · exact hK w5 k v kind p s5.bel (own_slI o5 (by omega)) (by omega) hi (by omega) (by omega)

end Go.Proofs.Ytlbhpbaeokgmaaa

/- The reading of spec_DrawFirstFault, and its contract. No condition. -/
namespace Go.Proofs.Ytlbhpbaeokgmaaa
open Go Go.RowKit Eng Mem
set_option linter.unusedVariables false
set_option maxRecDepth 100000
def V_spec_DrawFirstFault (code0 : Value) (w : World) (K : (Int × Value × Int) → World → Prop) : Prop :=
  (Fc Try.prog 35 #[code0] w (.three (.int .i64) .any (.int .i64)) fun (x10_2 : Int × Value × Int) w_1 => K (x10_2.1, (x10_2.2.1 : Value), x10_2.2.2) w_1)

theorem eq_spec_DrawFirstFault (code0 : Value) (w : World) (K : (Int × Value × Int) → World → Prop) :
    W Try.prog ty (fun _ _ _ _ => False) (bodyOf Try.f7) (fnPost Try.prog Try.f7.results.toList (.three (.int .i64) .any (.int .i64)) K) (frame0 [code0] 17) w = V_spec_DrawFirstFault code0 w K := by
  kernel_rfl

theorem body_spec_DrawFirstFault : Try.f7.body = some (bodyOf Try.f7) := by kernel_rfl
theorem name_spec_DrawFirstFault : (Try.f7.name == "runtime.NumGoroutine") = false := by kernel_rfl

theorem walk_spec_DrawFirstFault (code0 : Value) {w : World} {K : (Int × Value × Int) → World → Prop} (h : V_spec_DrawFirstFault code0 w K) : Fc Try.prog 7 #[code0] w (.three (.int .i64) .any (.int .i64)) K :=
  fn_ok follows (sound_none _) Try.func7 name_spec_DrawFirstFault body_spec_DrawFirstFault Try.ntmps7 [code0] (Eq.mpr (eq_spec_DrawFirstFault code0 w K) h)

-- uses S9Src
theorem c_spec_DrawFirstFault {code : Value} {l : List Int} {w : World} {K : Int × Value × Int → World → Prop} (h : ArgB w code l) (hl : l.length ≤ 4096)
    (hK : ∀ w' k v kind p, Below w.heap.size w w' → SlI w' v p → p.length ≤ 41 → InI p → I64 k → I64 kind → K (k, v, kind) w') : Fc Try.prog F_spec_DrawFirstFault #[code] w (.three (.int .i64) .any (.int .i64)) K :=
  walk_spec_DrawFirstFault _ (c_spec_l07With h hl hK)

end Go.Proofs.Ytlbhpbaeokgmaaa

/- The reading of spec_DrawFirstFree, and its contract. No condition. -/
namespace Go.Proofs.Ytlbhpbaeokgmaaa
open Go Go.RowKit Eng Mem
set_option linter.unusedVariables false
set_option maxRecDepth 100000
def V_spec_DrawFirstFree (code0 : Value) (w : World) (K : (Int × Int × Int) → World → Prop) : Prop :=
  (Fc Try.prog 48 #[code0, (.int .i64 (14 : Int))] w (.three (.int .i64) (.int .i64) (.int .i64)) fun (x10_2 : Int × Int × Int) w_1 => K (x10_2.1, x10_2.2.1, x10_2.2.2) w_1)

theorem eq_spec_DrawFirstFree (code0 : Value) (w : World) (K : (Int × Int × Int) → World → Prop) :
    W Try.prog ty (fun _ _ _ _ => False) (bodyOf Try.f19) (fnPost Try.prog Try.f19.results.toList (.three (.int .i64) (.int .i64) (.int .i64)) K) (frame0 [code0] 17) w = V_spec_DrawFirstFree code0 w K := by
  kernel_rfl

theorem body_spec_DrawFirstFree : Try.f19.body = some (bodyOf Try.f19) := by kernel_rfl
theorem name_spec_DrawFirstFree : (Try.f19.name == "runtime.NumGoroutine") = false := by kernel_rfl

theorem walk_spec_DrawFirstFree (code0 : Value) {w : World} {K : (Int × Int × Int) → World → Prop} (h : V_spec_DrawFirstFree code0 w K) : Fc Try.prog 19 #[code0] w (.three (.int .i64) (.int .i64) (.int .i64)) K :=
  fn_ok follows (sound_none _) Try.func19 name_spec_DrawFirstFree body_spec_DrawFirstFree Try.ntmps19 [code0] (Eq.mpr (eq_spec_DrawFirstFree code0 w K) h)

-- uses S9Src
theorem c_spec_DrawFirstFree {code : Value} {l : List Int} {w : World} {K : Int × Int × Int → World → Prop} (h : ArgB w code l) (hl : l.length ≤ 4096)
    (hK : ∀ w' a b c, Below w.heap.size w w' → I64 a → I64 b → I64 c → K (a, b, c) w') : Fc Try.prog F_spec_DrawFirstFree #[code] w (.three (.int .i64) (.int .i64) (.int .i64)) K :=
  walk_spec_DrawFirstFree _ (c_spec_l07Numbers h hl (by omega) (by omega) hK)

end Go.Proofs.Ytlbhpbaeokgmaaa

/- The reading of spec_DrawGreatestFree, and its contract. No condition. -/
namespace Go.Proofs.Ytlbhpbaeokgmaaa
open Go Go.RowKit Eng Mem
set_option linter.unusedVariables false
set_option maxRecDepth 100000
def V_spec_DrawGreatestFree (code0 : Value) (w : World) (K : (Int × Int) → World → Prop) : Prop :=
  (Fc Try.prog 48 #[code0, (.int .i64 (5 : Int))] w (.three (.int .i64) (.int .i64) (.int .i64)) fun (x9_2 : Int × Int × Int) w_1 => K (x9_2.2.1, x9_2.2.2) w_1)

theorem eq_spec_DrawGreatestFree (code0 : Value) (w : World) (K : (Int × Int) → World → Prop) :
    W Try.prog ty (fun _ _ _ _ => False) (bodyOf Try.f25) (fnPost Try.prog Try.f25.results.toList (.two (.int .i64) (.int .i64)) K) (frame0 [code0] 15) w = V_spec_DrawGreatestFree code0 w K := by
  kernel_rfl

theorem body_spec_DrawGreatestFree : Try.f25.body = some (bodyOf Try.f25) := by kernel_rfl
theorem name_spec_DrawGreatestFree : (Try.f25.name == "runtime.NumGoroutine") = false := by kernel_rfl

theorem walk_spec_DrawGreatestFree (code0 : Value) {w : World} {K : (Int × Int) → World → Prop} (h : V_spec_DrawGreatestFree code0 w K) : Fc Try.prog 25 #[code0] w (.two (.int .i64) (.int .i64)) K :=
  fn_ok follows (sound_none _) Try.func25 name_spec_DrawGreatestFree body_spec_DrawGreatestFree Try.ntmps25 [code0] (Eq.mpr (eq_spec_DrawGreatestFree code0 w K) h)

-- uses S9Src
theorem c_spec_DrawGreatestFree {code : Value} {l : List Int} {w : World} {K : Int × Int → World → Prop} (h : ArgB w code l) (hl : l.length ≤ 4096)
    (hK : ∀ w' a b, Below w.heap.size w w' → I64 a → I64 b → K (a, b) w') : Fc Try.prog F_spec_DrawGreatestFree #[code] w (.two (.int .i64) (.int .i64)) K :=
  walk_spec_DrawGreatestFree _ (c_spec_l07Numbers h hl (by omega) (by omega) fun w' _ b c q _ hb hc => hK w' b c q hb hc)

end Go.Proofs.Ytlbhpbaeokgmaaa

/- The reading of spec_FirstFault, and its contract. No condition. -/
namespace Go.Proofs.Ytlbhpbaeokgmaaa
open Go Go.RowKit Eng Mem
set_option linter.unusedVariables false
set_option maxRecDepth 100000
def V_spec_FirstFault (k0 : Int) (part1 : Value) (kind2 : Int) (w : World) (K : (Value × Int) → World → Prop) : Prop :=
  (Fc Try.prog 38 #[(.int .i64 k0), part1, (.int .i64 kind2)] w (.one (.int .i64)) fun (x13_2 : Int) w_1 => (((x13_2 != (0 : Int)) = true → K (((.slice none 0 0) : Value), x13_2) w_1) ∧ ((x13_2 != (0 : Int)) = false → (Fc Try.prog 39 #[part1, (.int .i64 kind2), (.int .i64 (1 : Int))] w_1 (.one .any) fun (x19_4 : Value) w_3 => (QAll Try.prog (Builtin.len_ #[24] 3 #[x19_4]) (.int .i64) fun (x21_5 : Int) => (((x21_5 == (0 : Int)) = true → K (((.slice none 0 0) : Value), (4 : Int)) w_3) ∧ ((x21_5 == (0 : Int)) = false → K ((x19_4 : Value), (0 : Int)) w_3)))))))

theorem eq_spec_FirstFault (k0 : Int) (part1 : Value) (kind2 : Int) (w : World) (K : (Value × Int) → World → Prop) :
    W Try.prog ty (fun _ _ _ _ => False) (bodyOf Try.f9) (fnPost Try.prog Try.f9.results.toList (.two .any (.int .i64)) K) (frame0 [(.int .i64 k0), part1, (.int .i64 kind2)] 24) w = V_spec_FirstFault k0 part1 kind2 w K := by
  kernel_rfl

theorem body_spec_FirstFault : Try.f9.body = some (bodyOf Try.f9) := by kernel_rfl
theorem name_spec_FirstFault : (Try.f9.name == "runtime.NumGoroutine") = false := by kernel_rfl

theorem walk_spec_FirstFault (k0 : Int) (part1 : Value) (kind2 : Int) {w : World} {K : (Value × Int) → World → Prop} (h : V_spec_FirstFault k0 part1 kind2 w K) : Fc Try.prog 9 #[(.int .i64 k0), part1, (.int .i64 kind2)] w (.two .any (.int .i64)) K :=
  fn_ok follows (sound_none _) Try.func9 name_spec_FirstFault body_spec_FirstFault Try.ntmps9 [(.int .i64 k0), part1, (.int .i64 kind2)] (Eq.mpr (eq_spec_FirstFault k0 part1 kind2 w K) h)

-- uses S7Circ
theorem c_spec_FirstFault {k kind : Int} {a : Value} {l : List Int} {w : World} {K : Value × Int → World → Prop} (_ : I64 k) (ha : ArgI w a l) (_ : I64 kind)
    (hK : ∀ w' v, Below w.heap.size w w' → MyI w.heap.size w'.heap.size w' v (firstF k l kind).1 → K (v, (firstF k l kind).2) w') : Fc Try.prog F_spec_FirstFault #[.int .i64 k, a, .int .i64 kind] w (.two .any (.int .i64)) K := by
  unfold firstF at hK
  refine walk_spec_FirstFault _ _ _ (c_spec_l07Code ha.sl ?_)
  by_cases h : IsPart k l ∧ 0 ≤ kind ∧ kind ≤ 2
  · rw [if_pos h] at hK ⊢
    have hl := h.1.2.2.1
    refine ⟨fun e => absurd rfl (ne_t e), fun _ => c_spec_l07Fault ha.sl (by omega) (by omega) (by omega) fun w2 v hb2 hm => lenI hm.sl ?_⟩
    have ht3 := faR_triples l kind 0 l.length
    rw [show ((1 : Int) - 1).toNat = 0 from by decide, show ((l.length : Int) + 1 - 1).toNat = l.length from by omega] at hm ⊢
    cases hc : faR l kind 0 l.length with
    | nil =>
      rw [hc] at hK
      exact ⟨fun _ => hK w2 _ hb2 (myI_nil _ _ _), fun e => absurd rfl (eq_f e)⟩
    | cons t r =>
      rw [hc] at hK hm ht3
      have := ht3 t (by simp)
      refine ⟨fun e => by have := eq_t e; simp only [List.headD_cons] at this; omega, fun _ => hK w2 v hb2 hm⟩
  · rw [if_neg h] at hK ⊢
    exact ⟨fun _ => hK w _ (Below.refl _ _) (myI_nil _ _ _), fun e => absurd (ne_f e) (by omega)⟩

end Go.Proofs.Ytlbhpbaeokgmaaa

/- The reading of spec_l07Find, and its contract. No condition. -/
namespace Go.Proofs.Ytlbhpbaeokgmaaa
open Go Go.RowKit Eng Mem
set_option linter.unusedVariables false
set_option maxRecDepth 100000
def B_spec_l07Find_5 (n0 : Int) (k1 : Int) (part2 : Value) (kind3 : Int) (next10 : Value) (i11 : Int) (N : (Int × Int × Value × Int × Value) → Int → World → Prop) (D0 : (Unit) → World → Prop) (R : (Value × Bool × Unit) → World → Prop) (w : World) : Prop :=
  (QAll Try.prog (Builtin.len_ #[24] 3 #[next10]) (.int .i64) fun (x25_4 : Int) => (((decide (i11 < x25_4)) = true → (∀ w_5, Drew w w_5 → (QAll Try.prog (Instr.indexAt 24 next10 (.int .i64 i11)) .any fun (x36_6 : Value) => (QSub Try.prog (Instr.loadAt 2 x36_6) w_5 (.int .i64) fun (x37_7 : Int) => ((Fc Try.prog 74 #[part2] w_5 (.one .any) fun (x33_9 : Value) w_8 => (Keeps w_5 w_8 ((Pr Try.prog (Instr.buildSlice 24 1 #[(0, (.int .i64 x37_7))]) w_8 (.one .any) fun (x38_11 : Value) w_10 => (Pr Try.prog (Builtin.append_ #[24, 24] 24 #[x33_9, x38_11]) w_10 (.one .any) fun (x39_13 : Value) w_12 => (Fc Try.prog 54 #[(.int .i64 n0), (.int .i64 k1), x39_13, (.int .i64 kind3)] w_12 (.two .any .bool) fun (x41_15 : Value × Bool) w_14 => ((x41_15.2 = true → R ((x41_15.1 : Value), true, ()) w_14) ∧ (x41_15.2 = false → N (n0, k1, (part2 : Value), kind3, (next10 : Value)) (IntKind.i64.wrap (i11 + (1 : Int))) w_14)))))))) ∧ (Pr Try.prog (Instr.buildSlice 24 1 #[(0, (.int .i64 x37_7))]) w_5 (.one .any) fun (x38_17 : Value) w_16 => (Fc Try.prog 74 #[part2] w_16 (.one .any) fun (x33_19 : Value) w_18 => (Pr Try.prog (Builtin.append_ #[24, 24] 24 #[x33_19, x38_17]) w_18 (.one .any) fun (x39_21 : Value) w_20 => (Fc Try.prog 54 #[(.int .i64 n0), (.int .i64 k1), x39_21, (.int .i64 kind3)] w_20 (.two .any .bool) fun (x41_23 : Value × Bool) w_22 => ((x41_23.2 = true → R ((x41_23.1 : Value), true, ()) w_22) ∧ (x41_23.2 = false → N (n0, k1, (part2 : Value), kind3, (next10 : Value)) (IntKind.i64.wrap (i11 + (1 : Int))) w_22))))))))))) ∧ ((decide (i11 < x25_4)) = false → D0 () w)))

abbrev L_spec_l07Find_5_e0 : List Slot := [.junk, .junk, .junk, .junk, .junk, .junk, .junk, .junk, .junk, .junk, .junk, .junk, .junk, .junk, .junk, .junk, .junk, .junk, .junk, .junk, .junk, .junk, .junk, .junk, .junk, .junk, .junk, .junk, .junk, .junk, .junk, .junk, .junk, .junk, .junk, .junk, .junk, .junk, .junk, .junk, .junk, .junk, .junk, .junk, .junk, .junk]

abbrev L_spec_l07Find_5_sp : List Slot := [.k (.int .i64), .k (.int .i64), .k .any, .k (.int .i64), .junk, .junk, .junk, .junk, .junk, .junk, .k .any, .k (.int .i64), .junk, .junk, .junk, .junk, .junk, .junk, .junk, .junk, .junk, .junk, .junk, .junk, .junk, .junk, .junk, .junk, .junk, .junk, .junk, .junk, .junk, .junk, .junk, .junk, .junk, .junk, .junk, .junk, .junk, .junk, .junk, .junk, .junk, .junk]
abbrev L_spec_l07Find_5_ex : List (Nat × List Slot) := [(0, L_spec_l07Find_5_e0)]
abbrev L_spec_l07Find_5_rt : List Slot := [.junk, .junk, .junk, .junk, .junk, .junk, .junk, .junk, .k .any, .k .bool, .junk, .junk, .junk, .junk, .junk, .junk, .junk, .junk, .junk, .junk, .junk, .junk, .junk, .junk, .junk, .junk, .junk, .junk, .junk, .junk, .junk, .junk, .junk, .junk, .junk, .junk, .junk, .junk, .junk, .junk, .junk, .junk, .junk, .junk, .junk, .junk]

def L_spec_l07Find_5_b (Φ : Post) (u : (Int × Int × Value × Int × Value)) (N : (Int × Int × Value × Int × Value) → Int → World → Prop) (s : Int) (w : World) : Prop :=
  B_spec_l07Find_5 u.1 u.2.1 u.2.2.1 u.2.2.2.1 u.2.2.2.2 s N (fun v w => ∀ j : Nat → Value, Φ (.exit 0) (mkT j 0 L_spec_l07Find_5_e0 v) w) (fun v w => ∀ j : Nat → Value, Φ .ret (mkT j 0 L_spec_l07Find_5_rt v) w) w

theorem L_spec_l07Find_5_eq (j : Nat → Value) (u : (Int × Int × Value × Int × Value)) (s : Int) (N : (Int × Int × Value × Int × Value) → Int → World → Prop) (D0 : (Unit) → World → Prop) (R : (Value × Bool × Unit) → World → Prop) (w : World) :
    W Try.prog ty (fun _ _ _ _ => False) (loopAt Try.f54 5) (loopPost L_spec_l07Find_5_sp [(0, (⟨L_spec_l07Find_5_e0, D0⟩ : Door))] ⟨L_spec_l07Find_5_rt, R⟩ (fun v w => N ((fun v => (v.1, v.2.1, v.2.2.1, v.2.2.2.1, v.2.2.2.2.1)) v) ((fun v => v.2.2.2.2.2.1) v) w)) (mkT j 0 L_spec_l07Find_5_sp ((fun u s => (u.1, u.2.1, u.2.2.1, u.2.2.2.1, u.2.2.2.2, s, ())) u s)) w =
    B_spec_l07Find_5 u.1 u.2.1 u.2.2.1 u.2.2.2.1 u.2.2.2.2 s N D0 R w := by
  kernel_rfl

def O_spec_l07Find_1 : Code → Post → List SV → World → Prop :=
  orc 5 (loopAt Try.f54 5) L_spec_l07Find_5_sp (fun Φ fr w => LOOP (U := (Int × Int × Value × Int × Value)) (S := Int) ((fun v => (v.1, v.2.1, v.2.2.1, v.2.2.2.1, v.2.2.2.2.1)) (extT L_spec_l07Find_5_sp fr)) (L_spec_l07Find_5_b Φ ((fun v => (v.1, v.2.1, v.2.2.1, v.2.2.2.1, v.2.2.2.2.1)) (extT L_spec_l07Find_5_sp fr))) ((fun v => v.2.2.2.2.2.1) (extT L_spec_l07Find_5_sp fr)) w) (fun _ _ _ _ => False)

theorem O_spec_l07Find_1_ok : Sound Try.prog O_spec_l07Find_1 :=
  orc_ok (sound_none _) fun Φ fr w hs h => loop_ok (ty := ty) follows (sound_none _) L_spec_l07Find_5_sp (fun v => (v.1, v.2.1, v.2.2.1, v.2.2.2.1, v.2.2.2.2.1)) (fun v => v.2.2.2.2.2.1) (fun u s => (u.1, u.2.1, u.2.2.1, u.2.2.2.1, u.2.2.2.2, s, ())) (fun _ => rfl) L_spec_l07Find_5_ex L_spec_l07Find_5_rt (body := L_spec_l07Find_5_b Φ) (fun j u s w N hb => by
    have e := L_spec_l07Find_5_eq j u s N (doorOf Φ (.exit 0) L_spec_l07Find_5_e0).D (doorOf Φ .ret L_spec_l07Find_5_rt).D w
    exact Eq.mpr e hb) hs h

def V_spec_l07Find (n0 : Int) (k1 : Int) (part2 : Value) (kind3 : Int) (w : World) (K : (Value × Bool) → World → Prop) : Prop :=
  (QAll Try.prog (Builtin.len_ #[24] 3 #[part2]) (.int .i64) fun (x15_1 : Int) => (((x15_1 == n0) = true → K ((part2 : Value), true) w) ∧ ((x15_1 == n0) = false → (Fc Try.prog 44 #[(.int .i64 k1), part2, (.int .i64 kind3)] w (.one .any) fun (x22_3 : Value) w_2 => (At (loopAt Try.f54 5) (loopAt Try.f54 5) (LOOP (U := (Int × Int × Value × Int × Value)) (S := Int) (n0, k1, (part2 : Value), kind3, (x22_3 : Value)) (fun N_30 s_31 w_32 => B_spec_l07Find_5 n0 k1 (part2 : Value) kind3 (x22_3 : Value) s_31 N_30 (fun (v_24 : (Unit)) w_25 => ∀ _j_26 : Nat → Value, K (((.slice none 0 0) : Value), false) w_25) (fun (v_27 : (Value × Bool × Unit)) w_28 => ∀ _j_29 : Nat → Value, K ((v_27.1 : Value), v_27.2.1) w_28) w_32) (0 : Int) w_2))))))

theorem eq_spec_l07Find (n0 : Int) (k1 : Int) (part2 : Value) (kind3 : Int) (w : World) (K : (Value × Bool) → World → Prop) :
    W Try.prog ty O_spec_l07Find_1 (bodyOf Try.f54) (fnPost Try.prog Try.f54.results.toList (.two .any .bool) K) (frame0 [(.int .i64 n0), (.int .i64 k1), part2, (.int .i64 kind3)] 46) w = V_spec_l07Find n0 k1 part2 kind3 w K := by
  kernel_rfl

theorem body_spec_l07Find : Try.f54.body = some (bodyOf Try.f54) := by kernel_rfl
theorem name_spec_l07Find : (Try.f54.name == "runtime.NumGoroutine") = false := by kernel_rfl

theorem walk_spec_l07Find (n0 : Int) (k1 : Int) (part2 : Value) (kind3 : Int) {w : World} {K : (Value × Bool) → World → Prop} (h : V_spec_l07Find n0 k1 part2 kind3 w K) : Fc Try.prog 54 #[(.int .i64 n0), (.int .i64 k1), part2, (.int .i64 kind3)] w (.two .any .bool) K :=
  fn_ok follows O_spec_l07Find_1_ok Try.func54 name_spec_l07Find body_spec_l07Find Try.ntmps54 [(.int .i64 n0), (.int .i64 k1), part2, (.int .i64 kind3)] (Eq.mpr (eq_spec_l07Find n0 k1 part2 kind3 w K) h)

-- uses S8Find
theorem c_spec_l07Find {k kind : Int} {n : Nat} (B : Nat) (hk : 0 ≤ k ∧ k ≤ 3) (hn : n ≤ 40) :
    ∀ (fuel : Nat) (l : List Int) (part : Value) (w : World) (K : Value × Bool → World → Prop), l.length + fuel = n → B ≤ w.heap.size → MyI B w.heap.size w part l →
      (∀ w' v p, Below w.heap.size w w' → findF k kind n fuel l = some p → MyI B w'.heap.size w' v p → K (v, true) w') → (∀ w', Below w.heap.size w w' → findF k kind n fuel l = none → K (.slice none 0 0, false) w') →
      Fc Try.prog F_spec_l07Find #[.int .i64 n, .int .i64 k, part, .int .i64 kind] w (.two .any .bool) K
  | fuel, l, part, w, K, hlen, hB, hm, hK, hK0 => by
    have hs := hm.sl
    refine walk_spec_l07Find _ _ _ _ (lenI hs ⟨fun he => ?_, fun hne => ?_⟩)
    · have he := eq_t he
      exact hK w part l (Below.refl _ _) (by unfold findF; rw [if_pos (by omega)]) hm
    have hne := eq_f hne
    match fuel, hlen, hK, hK0 with
    | 0, hlen, _, _ => omega
    | fuel + 1, hlen, hK, hK0 =>
      obtain ⟨cs, hcs⟩ : ∃ cs, nextL l kind k.toNat = cs := ⟨_, rfl⟩
      have hc : findF k kind n (fuel + 1) l = (cs.map fun c => l ++ [c]).findSome? (findF k kind n fuel) := by rw [findF, if_neg (by omega), hcs]
      rw [hc] at hK hK0
      have hnl := nextL_len l kind k.toNat
      rw [hcs] at hnl
      refine c_spec_l07Next hs (by omega) hk.1 hk.2 fun w1 v b hb hbel ho => ?_
      rw [hcs] at ho
      have hs1 := hbel.size
      refine lp (fun i w' => 0 ≤ i ∧ i ≤ cs.length ∧ Below w1.heap.size w1 w' ∧ (cs.map fun c => l ++ [c]).findSome? (findF k kind n fuel) = ((cs.drop i.toNat).map fun c => l ++ [c]).findSome? (findF k kind n fuel)) (fun i _ => (cs.length - i).toNat) ⟨by omega, by omega, Below.refl _ _, by simp⟩ ?_
      rintro i w2 N ⟨i0, i1, hb2, hrest⟩ hN
      unfold B_spec_l07Find_5
      refine lenI (own_slI (ho.keep hb2) (by omega)) ⟨fun hlt w3 hd => ?_, fun hge => ?_⟩
      · have hlt := dec_t hlt
        have hb3 := hb2.trans (hd.below w1.heap.size)
        have hz3 := hb3.size
        have q3 := hbel.trans (hb3.mono hs1)
        have hs3 := hs.keep q3
        have hi : i.toNat < cs.length := by omega
        refine atI (own_slI (ho.keep hb3) (by omega)) i0 hlt ?_
        obtain ⟨x, hx⟩ : ∃ x, cs.getD i.toNat 0 = x := ⟨_, rfl⟩
        have hdrop : cs.drop i.toNat = x :: cs.drop (i.toNat + 1) := by
          rw [List.drop_eq_getElem_cons hi, ← hx]
          simp [List.getD, hi]
        rw [hdrop, List.map_cons, List.findSome?_cons] at hrest
        rw [hx]
        have hL : (l ++ [x]).length = l.length + 1 := by simp
        have fin : ∀ (y : Value) (w6 : World), Below w3.heap.size w3 w6 → MyI B w6.heap.size w6 y (l ++ [x]) → Fc Try.prog F_spec_l07Find #[.int .i64 n, .int .i64 k, y, .int .i64 kind] w6 (.two .any .bool) fun x41 w14 => (x41.2 = true → ∀ _j : Nat → Value, K (x41.1, x41.2) w14) ∧ (x41.2 = false → N (n, k, part, kind, v) (IntKind.i64.wrap (i + 1)) w14) := fun y w6 hb6 hy => by
          have hz6 := hb6.size
          refine c_spec_l07Find B hk hn fuel (l ++ [x]) y w6 _ (by rw [hL]; omega) (by omega) hy (fun w7 v' p hb7 hf hp => ⟨fun _ _ => ?_, fun h => Bool.noConfusion h⟩) fun w7 hb7 hf => ⟨fun h => Bool.noConfusion h, fun _ => ?_⟩
          · rw [hf] at hrest
            exact hK w7 v' p (q3.trans ((hb6.trans (hb7.mono hz6)).mono q3.size)) hrest hp
          · rw [hf] at hrest
            rw [wrap_small (by omega) (by omega)]
            exact hN _ _ ⟨by omega, by omega, hb3.trans ((hb6.trans (hb7.mono hz6)).mono hz3), by rw [hrest, show (i + 1).toNat = i.toNat + 1 from by omega]⟩ (by omega)
        refine ⟨c_spec_l01Own hs3 (by omega) fun w4 y b4 hb4 q4 o4 => ⟨q4, ?_⟩, ?_⟩
        · have hz4 := q4.size
          refine appI o4 (by omega) fun y' w5 b5 o5 m5 hb5 => ?_
          have q5 : Below w3.heap.size w3 w5 := q4.trans (m5.below (by omega) (by simp; omega))
          exact (fin y' w5 q5 (own_my o5 (by rw [hL]; omega) (by omega) o5.lt)).mono fun x w h => ⟨fun hx j => by have := h.1 hx j; rw [hx] at this; exact this, h.2⟩
        · refine mk1 ySI rfl fun b4 w4 n4 o4 => c_spec_l01Own (hs3.keep n4.below) (by omega) fun w5 y b5 hb5 q5 o5 => ?_
          have hz4 := n4.below.size; have hz5 := q5.size
          refine app ySI 1 o5 (o4.keep q5).sl (by simp) (iv_one [x]) (by omega) fun y' w6 b6 o6 m6 hb6 => ?_
          have q6 : Below w3.heap.size w3 w6 := (n4.below.trans (q5.mono hz4)).trans (m6.below (by omega) (by simp; omega))
          have o6' : OwnI w6 b6 y' (l ++ [x]) := by
            unfold OwnI
            rw [hL, iv, List.map_append]
            exact o6
          exact (fin y' w6 q6 (own_my o6' (by rw [hL]; omega) (by omega) o6'.lt)).mono fun x w h => ⟨fun hx j => by have := h.1 hx j; rw [hx] at this; exact this, h.2⟩
      · have hge := dec_f hge
        have : i = cs.length := by omega
        subst this
        intro _
        rw [show ((cs.length : Int)).toNat = cs.length from by omega, List.drop_length] at hrest
        exact hK0 w2 (hbel.trans (hb2.mono hs1)) hrest

end Go.Proofs.Ytlbhpbaeokgmaaa

/- The reading of spec_FirstFree, and its contract. No condition. -/
namespace Go.Proofs.Ytlbhpbaeokgmaaa
open Go Go.RowKit Eng Mem
set_option linter.unusedVariables false
set_option maxRecDepth 100000
def V_spec_FirstFree (n0 : Int) (k1 : Int) (kind2 : Int) (w : World) (K : (Value × Int) → World → Prop) : Prop :=
  (Fc Try.prog 53 #[(.int .i64 n0), (.int .i64 (0 : Int)), (.int .i64 (14 : Int))] w (.one .bool) fun (x11_2 : Bool) w_1 => (((!x11_2) = true → K (((.slice none 0 0) : Value), (2 : Int)) w_1) ∧ ((!x11_2) = false → (Fc Try.prog 38 #[(.int .i64 k1), (.slice none 0 0), (.int .i64 kind2)] w_1 (.one (.int .i64)) fun (x16_4 : Int) w_3 => (((x16_4 != (0 : Int)) = true → K (((.slice none 0 0) : Value), (2 : Int)) w_3) ∧ ((x16_4 != (0 : Int)) = false → (Pr Try.prog (Instr.buildSlice 24 0 #[]) w_3 (.one .any) fun (x22_6 : Value) w_5 => (Fc Try.prog 54 #[(.int .i64 n0), (.int .i64 k1), x22_6, (.int .i64 kind2)] w_5 (.two .any .bool) fun (x24_8 : Value × Bool) w_7 => (((!x24_8.2) = true → K (((.slice none 0 0) : Value), (4 : Int)) w_7) ∧ ((!x24_8.2) = false → K ((x24_8.1 : Value), (0 : Int)) w_7))))))))))

theorem eq_spec_FirstFree (n0 : Int) (k1 : Int) (kind2 : Int) (w : World) (K : (Value × Int) → World → Prop) :
    W Try.prog ty (fun _ _ _ _ => False) (bodyOf Try.f21) (fnPost Try.prog Try.f21.results.toList (.two .any (.int .i64)) K) (frame0 [(.int .i64 n0), (.int .i64 k1), (.int .i64 kind2)] 30) w = V_spec_FirstFree n0 k1 kind2 w K := by
  kernel_rfl

theorem body_spec_FirstFree : Try.f21.body = some (bodyOf Try.f21) := by kernel_rfl
theorem name_spec_FirstFree : (Try.f21.name == "runtime.NumGoroutine") = false := by kernel_rfl

theorem walk_spec_FirstFree (n0 : Int) (k1 : Int) (kind2 : Int) {w : World} {K : (Value × Int) → World → Prop} (h : V_spec_FirstFree n0 k1 kind2 w K) : Fc Try.prog 21 #[(.int .i64 n0), (.int .i64 k1), (.int .i64 kind2)] w (.two .any (.int .i64)) K :=
  fn_ok follows (sound_none _) Try.func21 name_spec_FirstFree body_spec_FirstFree Try.ntmps21 [(.int .i64 n0), (.int .i64 k1), (.int .i64 kind2)] (Eq.mpr (eq_spec_FirstFree n0 k1 kind2 w K) h)

-- uses S8Find
theorem c_spec_FirstFree {n k kind : Int} {w : World} {K : Value × Int → World → Prop} (_ : I64 n) (_ : I64 k) (_ : I64 kind)
    (hK : ∀ w' v, Below w.heap.size w w' → MyI w.heap.size w'.heap.size w' v (firstFree n k kind).1 → K (v, (firstFree n k kind).2) w') : Fc Try.prog F_spec_FirstFree #[.int .i64 n, .int .i64 k, .int .i64 kind] w (.two .any (.int .i64)) K := by
  unfold firstFree at hK
  have k1 := fun v => hK w v (Below.refl _ _)
  refine walk_spec_FirstFree _ _ _ (c_spec_l01In _ _ _ ⟨fun h => by rw [if_neg (fun hh => notd_t h hh.1)] at k1; exact k1 _ (myI_nil _ _ _), fun h1 => c_spec_l07Code (slI_nil w) ?_⟩)
  have h1 := notd_f h1
  have hnil := isPart_nil k
  by_cases h : IsPart k [] ∧ 0 ≤ kind ∧ kind ≤ 2
  · rw [if_pos h]
    have h2 := hnil.1 h.1
    have hnn : ((n.toNat : Nat) : Int) = n := by omega
    refine ⟨fun e => absurd rfl (ne_t e), fun _ => nilI fun b v w1 hb hbel ho => ?_⟩
    have hs := hbel.size
    have main := c_spec_l07Find (k := k) (kind := kind) (n := n.toNat) w.heap.size (by omega) (by omega) n.toNat [] v w1
    rw [hnn] at main
    refine main _ (by simp) hs (own_my ho (by simp) (by omega) ho.lt) (fun w2 v' p hb2 hf hp => ⟨fun h => Bool.noConfusion h, fun _ => ?_⟩) fun w2 hb2 hf => ⟨fun _ => ?_, fun h => Bool.noConfusion h⟩
    · have := hK w2 v' (hbel.trans (hb2.mono hs))
      rw [if_pos ⟨h1, h2, h.2⟩, hf] at this
      exact this hp
    · have := hK w2 (.slice none 0 0) (hbel.trans (hb2.mono hs))
      rw [if_pos ⟨h1, h2, h.2⟩, hf] at this
      exact this (myI_nil _ _ _)
  · rw [if_neg h]
    rw [if_neg (fun hh => h ⟨hnil.2 hh.2.1, hh.2.2⟩)] at k1
    exact ⟨fun _ => k1 _ (myI_nil _ _ _), fun e => absurd (ne_f e) (by omega)⟩

end Go.Proofs.Ytlbhpbaeokgmaaa

/- The reading of spec_GreatestFree, and its contract. No condition. -/
namespace Go.Proofs.Ytlbhpbaeokgmaaa
open Go Go.RowKit Eng Mem
set_option linter.unusedVariables false
set_option maxRecDepth 100000
def B_spec_GreatestFree_4 (k0 : Int) (kind1 : Int) (n6 : Int) (N : (Int × Int) → Int → World → Prop) (D0 : (Int × Unit) → World → Prop) (w : World) : Prop :=
  (((decide (n6 < (40 : Int))) = true → (Pr Try.prog (Instr.buildSlice 24 0 #[]) w (.one .any) fun (x24_6 : Value) w_5 => (Fc Try.prog 54 #[(.int .i64 (IntKind.i64.wrap (n6 + (1 : Int)))), (.int .i64 k0), x24_6, (.int .i64 kind1)] w_5 (.two .any .bool) fun (x26_8 : Value × Bool) w_7 => (((!x26_8.2) = true → D0 (n6, ()) w_7) ∧ ((!x26_8.2) = false → N (k0, kind1) (IntKind.i64.wrap (n6 + (1 : Int))) w_7))))) ∧ ((decide (n6 < (40 : Int))) = false → D0 (n6, ()) w))

abbrev L_spec_GreatestFree_4_e0 : List Slot := [.junk, .junk, .junk, .junk, .junk, .junk, .k (.int .i64), .junk, .junk, .junk, .junk, .junk, .junk, .junk, .junk, .junk, .junk, .junk, .junk, .junk, .junk, .junk, .junk, .junk, .junk, .junk, .junk, .junk, .junk, .junk, .junk, .junk, .junk, .junk]

abbrev L_spec_GreatestFree_4_sp : List Slot := [.k (.int .i64), .k (.int .i64), .junk, .junk, .junk, .junk, .k (.int .i64), .junk, .junk, .junk, .junk, .junk, .junk, .junk, .junk, .junk, .junk, .junk, .junk, .junk, .junk, .junk, .junk, .junk, .junk, .junk, .junk, .junk, .junk, .junk, .junk, .junk, .junk, .junk]
abbrev L_spec_GreatestFree_4_ex : List (Nat × List Slot) := [(0, L_spec_GreatestFree_4_e0)]
abbrev L_spec_GreatestFree_4_rt : List Slot := [.junk, .junk, .junk, .junk, .junk, .junk, .junk, .junk, .junk, .junk, .junk, .junk, .junk, .junk, .junk, .junk, .junk, .junk, .junk, .junk, .junk, .junk, .junk, .junk, .junk, .junk, .junk, .junk, .junk, .junk, .junk, .junk, .junk, .junk]

def L_spec_GreatestFree_4_b (Φ : Post) (u : (Int × Int)) (N : (Int × Int) → Int → World → Prop) (s : Int) (w : World) : Prop :=
  B_spec_GreatestFree_4 u.1 u.2 s N (fun v w => ∀ j : Nat → Value, Φ (.exit 0) (mkT j 0 L_spec_GreatestFree_4_e0 v) w) w

theorem L_spec_GreatestFree_4_eq (j : Nat → Value) (u : (Int × Int)) (s : Int) (N : (Int × Int) → Int → World → Prop) (D0 : (Int × Unit) → World → Prop) (R : (Unit) → World → Prop) (w : World) :
    W Try.prog ty (fun _ _ _ _ => False) (loopAt Try.f27 4) (loopPost L_spec_GreatestFree_4_sp [(0, (⟨L_spec_GreatestFree_4_e0, D0⟩ : Door))] ⟨L_spec_GreatestFree_4_rt, R⟩ (fun v w => N ((fun v => (v.1, v.2.1)) v) ((fun v => v.2.2.1) v) w)) (mkT j 0 L_spec_GreatestFree_4_sp ((fun u s => (u.1, u.2, s, ())) u s)) w =
    B_spec_GreatestFree_4 u.1 u.2 s N D0 w := by
  kernel_rfl

def O_spec_GreatestFree_1 : Code → Post → List SV → World → Prop :=
  orc 4 (loopAt Try.f27 4) L_spec_GreatestFree_4_sp (fun Φ fr w => LOOP (U := (Int × Int)) (S := Int) ((fun v => (v.1, v.2.1)) (extT L_spec_GreatestFree_4_sp fr)) (L_spec_GreatestFree_4_b Φ ((fun v => (v.1, v.2.1)) (extT L_spec_GreatestFree_4_sp fr))) ((fun v => v.2.2.1) (extT L_spec_GreatestFree_4_sp fr)) w) (fun _ _ _ _ => False)

theorem O_spec_GreatestFree_1_ok : Sound Try.prog O_spec_GreatestFree_1 :=
  orc_ok (sound_none _) fun Φ fr w hs h => loop_ok (ty := ty) follows (sound_none _) L_spec_GreatestFree_4_sp (fun v => (v.1, v.2.1)) (fun v => v.2.2.1) (fun u s => (u.1, u.2, s, ())) (fun _ => rfl) L_spec_GreatestFree_4_ex L_spec_GreatestFree_4_rt (body := L_spec_GreatestFree_4_b Φ) (fun j u s w N hb => by
    have e := L_spec_GreatestFree_4_eq j u s N (doorOf Φ (.exit 0) L_spec_GreatestFree_4_e0).D (doorOf Φ .ret L_spec_GreatestFree_4_rt).D w
    exact Eq.mpr e hb) hs h

def V_spec_GreatestFree (k0 : Int) (kind1 : Int) (w : World) (K : (Int × Int) → World → Prop) : Prop :=
  (Fc Try.prog 53 #[(.int .i64 k0), (.int .i64 (1 : Int)), (.int .i64 (2 : Int))] w (.one .bool) fun (x10_2 : Bool) w_1 => (((!x10_2) = true → K ((0 : Int), (2 : Int)) w_1) ∧ ((!x10_2) = false → (Fc Try.prog 38 #[(.int .i64 k0), (.slice none 0 0), (.int .i64 kind1)] w_1 (.one (.int .i64)) fun (x15_4 : Int) w_3 => (((x15_4 != (0 : Int)) = true → K ((0 : Int), (2 : Int)) w_3) ∧ ((x15_4 != (0 : Int)) = false → (At (loopAt Try.f27 4) (loopAt Try.f27 4) (LOOP (U := (Int × Int)) (S := Int) (k0, kind1) (fun N_12 s_13 w_14 => B_spec_GreatestFree_4 k0 kind1 s_13 N_12 (fun (v_9 : (Int × Unit)) w_10 => ∀ _j_11 : Nat → Value, K (v_9.1, (0 : Int)) w_10) w_14) (0 : Int) w_3))))))))

theorem eq_spec_GreatestFree (k0 : Int) (kind1 : Int) (w : World) (K : (Int × Int) → World → Prop) :
    W Try.prog ty O_spec_GreatestFree_1 (bodyOf Try.f27) (fnPost Try.prog Try.f27.results.toList (.two (.int .i64) (.int .i64)) K) (frame0 [(.int .i64 k0), (.int .i64 kind1)] 34) w = V_spec_GreatestFree k0 kind1 w K := by
  kernel_rfl

theorem body_spec_GreatestFree : Try.f27.body = some (bodyOf Try.f27) := by kernel_rfl
theorem name_spec_GreatestFree : (Try.f27.name == "runtime.NumGoroutine") = false := by kernel_rfl

theorem walk_spec_GreatestFree (k0 : Int) (kind1 : Int) {w : World} {K : (Int × Int) → World → Prop} (h : V_spec_GreatestFree k0 kind1 w K) : Fc Try.prog 27 #[(.int .i64 k0), (.int .i64 kind1)] w (.two (.int .i64) (.int .i64)) K :=
  fn_ok follows O_spec_GreatestFree_1_ok Try.func27 name_spec_GreatestFree body_spec_GreatestFree Try.ntmps27 [(.int .i64 k0), (.int .i64 kind1)] (Eq.mpr (eq_spec_GreatestFree k0 kind1 w K) h)

-- uses S8Great
theorem c_spec_GreatestFree {k kind : Int} {w : World} {K : Int × Int → World → Prop} (_ : I64 k) (_ : I64 kind)
    (hK : ∀ w', Below w.heap.size w w' → K ((greatF k kind).1, (greatF k kind).2) w') : Fc Try.prog F_spec_GreatestFree #[.int .i64 k, .int .i64 kind] w (.two (.int .i64) (.int .i64)) K := by
  unfold greatF at hK
  have k0 := hK w (Below.refl _ _)
  refine walk_spec_GreatestFree _ _ (c_spec_l01In _ _ _ ⟨fun h => by rwa [if_neg (fun hh => notd_t h hh.1)] at k0, fun h1 => c_spec_l07Code (slI_nil w) ?_⟩)
  have h1 := notd_f h1
  have hnil := isPart_nil k
  by_cases h : IsPart k [] ∧ 0 ≤ kind ∧ kind ≤ 2
  case neg =>
    rw [if_neg h]
    rw [if_neg (fun hh => h ⟨hnil.2 ⟨hh.1.1, by omega⟩, hh.2⟩)] at k0
    exact ⟨fun _ => k0, fun e => absurd (ne_f e) (by omega)⟩
  rw [if_pos h]
  rw [if_pos ⟨h1, h.2⟩] at hK
  refine ⟨fun e => absurd rfl (ne_t e), fun _ => ?_⟩
  refine lp (fun n w' => 0 ≤ n ∧ n ≤ 40 ∧ Below w.heap.size w w' ∧ ∃ p ∈ allV k kind 40 40 [], (p.length : Int) = n) (fun n _ => (40 - n).toNat) ⟨by omega, by omega, Below.refl _ _, [], (mem_allV (f := 39) (by simp)).2 (.inl rfl), by simp⟩ ?_
  rintro n w1 N ⟨n0, n1, hb, p, hp, hpl⟩ hN
  unfold B_spec_GreatestFree_4
  refine ⟨fun hlt => ?_, fun hge => ?_⟩
  · have hlt := dec_t hlt
    refine nilI fun b v w2 hb2 hbel ho => ?_
    have hs := hb.size; have hs2 := hbel.size
    rw [wrap_small (by omega) (by omega)]
    have hnn : (((n + 1).toNat : Nat) : Int) = n + 1 := by omega
    have main := c_spec_l07Find (k := k) (kind := kind) (n := (n + 1).toNat) w.heap.size (by omega) (by omega) (n + 1).toNat [] v w2
    rw [hnn] at main
    refine main _ (by simp) (by omega) (own_my ho (by simp) (by omega) ho.lt) (fun w3 v' q hb3 hf hq => ⟨fun h => Bool.noConfusion h, fun _ => ?_⟩) fun w3 hb3 hf => ⟨fun _ => ?_, fun h => Bool.noConfusion h⟩
    · have := (find_iff k kind 40 (n + 1).toNat (by omega) 40 [] (by simp) (by simp)).1 (by rw [List.length_nil, Nat.sub_zero, hf]; rfl)
      obtain ⟨r, hr, hrl⟩ := this
      exact hN _ _ ⟨by omega, by omega, hb.trans ((hbel.trans (hb3.mono hs2)).mono hs), r, hr, by omega⟩ (by omega)
    · intro _
      have hg := great_is (k := k) (kind := kind) (n := n.toNat) (by omega) ⟨p, hp, by omega⟩ (.inr (by rw [show n.toNat + 1 = (n + 1).toNat from by omega]; exact hf))
      have := hK w3 (hb.trans ((hbel.trans (hb3.mono hs2)).mono hs))
      rw [hg, show ((n.toNat : Nat) : Int) = n from by omega] at this
      exact this
  · have hge := dec_f hge
    have : n = 40 := by omega
    subst this
    intro _
    have hg := great_is (k := k) (kind := kind) (n := 40) (by omega) ⟨p, hp, by omega⟩ (.inl rfl)
    have := hK w1 hb
    rw [hg] at this
    exact this

end Go.Proofs.Ytlbhpbaeokgmaaa

/- The reading of spec_IsFree, and its contract. No condition. -/
namespace Go.Proofs.Ytlbhpbaeokgmaaa
open Go Go.RowKit Eng Mem
set_option linter.unusedVariables false
set_option maxRecDepth 100000
def V_spec_IsFree (k0 : Int) (part1 : Value) (kind2 : Int) (w : World) (K : (Bool × Int) → World → Prop) : Prop :=
  (Fc Try.prog 38 #[(.int .i64 k0), part1, (.int .i64 kind2)] w (.one (.int .i64)) fun (x12_2 : Int) w_1 => (((x12_2 != (0 : Int)) = true → K (false, x12_2) w_1) ∧ ((x12_2 != (0 : Int)) = false → (Fc Try.prog 39 #[part1, (.int .i64 kind2), (.int .i64 (1 : Int))] w_1 (.one .any) fun (x18_4 : Value) w_3 => (QAll Try.prog (Builtin.len_ #[24] 3 #[x18_4]) (.int .i64) fun (x19_5 : Int) => K ((x19_5 == (0 : Int)), (0 : Int)) w_3)))))

theorem eq_spec_IsFree (k0 : Int) (part1 : Value) (kind2 : Int) (w : World) (K : (Bool × Int) → World → Prop) :
    W Try.prog ty (fun _ _ _ _ => False) (bodyOf Try.f11) (fnPost Try.prog Try.f11.results.toList (.two .bool (.int .i64)) K) (frame0 [(.int .i64 k0), part1, (.int .i64 kind2)] 21) w = V_spec_IsFree k0 part1 kind2 w K := by
  kernel_rfl

theorem body_spec_IsFree : Try.f11.body = some (bodyOf Try.f11) := by kernel_rfl
theorem name_spec_IsFree : (Try.f11.name == "runtime.NumGoroutine") = false := by kernel_rfl

theorem walk_spec_IsFree (k0 : Int) (part1 : Value) (kind2 : Int) {w : World} {K : (Bool × Int) → World → Prop} (h : V_spec_IsFree k0 part1 kind2 w K) : Fc Try.prog 11 #[(.int .i64 k0), part1, (.int .i64 kind2)] w (.two .bool (.int .i64)) K :=
  fn_ok follows (sound_none _) Try.func11 name_spec_IsFree body_spec_IsFree Try.ntmps11 [(.int .i64 k0), part1, (.int .i64 kind2)] (Eq.mpr (eq_spec_IsFree k0 part1 kind2 w K) h)

-- uses S8Cnt
theorem c_spec_IsFree {k kind : Int} {a : Value} {l : List Int} {w : World} {K : Bool × Int → World → Prop} (_ : I64 k) (ha : ArgI w a l) (_ : I64 kind)
    (hK : ∀ w', Below w.heap.size w w' → K ((freeF k l kind).1, (freeF k l kind).2) w') : Fc Try.prog F_spec_IsFree #[.int .i64 k, a, .int .i64 kind] w (.two .bool (.int .i64)) K := by
  unfold freeF at hK
  refine walk_spec_IsFree _ _ _ (c_spec_l07Code ha.sl ?_)
  by_cases h : IsPart k l ∧ 0 ≤ kind ∧ kind ≤ 2
  · rw [if_pos h] at hK ⊢
    have hl := h.1.2.2.1
    refine ⟨fun e => absurd rfl (ne_t e), fun _ => c_spec_l07Fault ha.sl (by omega) (by omega) (by omega) fun w2 v hb2 hm => lenI hm.sl ?_⟩
    have := hK w2 hb2
    rw [show ((1 : Int) - 1).toNat = 0 from by decide, show ((l.length : Int) + 1 - 1).toNat = l.length from by omega]
    have e : ((((faR l kind 0 l.length).headD []).length : Int) == 0) = decide (faR l kind 0 l.length = []) := by
      have ht := faR_triples l kind 0 l.length
      cases hc : faR l kind 0 l.length with
      | nil => rfl
      | cons t r =>
        rw [hc] at ht
        have := ht t (by simp)
        simp [this]
    rw [e]
    exact this
  · rw [if_neg h] at hK ⊢
    exact ⟨fun _ => hK w (Below.refl _ _), fun e => absurd (ne_f e) (by omega)⟩

end Go.Proofs.Ytlbhpbaeokgmaaa

/- The reading of laws_FnSumParts, and its contract. No condition. -/
namespace Go.Proofs.Ytlbhpbaeokgmaaa
open Go Go.RowKit Eng Mem
set_option linter.unusedVariables false
set_option maxRecDepth 100000
def B_laws_FnSumParts_22 (code0 : Value) (k3 : Int) (part4 : Value) (kind5 : Int) (fault6 : Value) (one7 : Int) (next18 : Value) (nine23 : Int) (other24 : Int) (ten25 : Int) (same26 : Int) (eleven27 : Int) (total28 : Int) (c29 : Int) (N : (Value × Int × Value × Int × Value × Int × Value × Int × Int × Int × Int × Int) → (Int × Int) → World → Prop) (D0 : (Value × Int × Value × Int × Value × Int × Value × Int × Int × Int × Int × Int × Int × Unit) → World → Prop) (R : (Bool × Unit) → World → Prop) (w : World) : Prop :=
  (((decide (c29 < k3)) = true → (Fc Try.prog 18 #[(.int .i64 k3), part4, (.int .i64 c29)] w (.two .any (.int .i64)) fun (x203_35 : Value × Int) w_34 => (((x203_35.2 != (0 : Int)) = true → R (false, ()) w_34) ∧ ((x203_35.2 != (0 : Int)) = false → (QAll Try.prog (Builtin.len_ #[24] 3 #[x203_35.1]) (.int .i64) fun (x210_36 : Int) => N ((code0 : Value), k3, (part4 : Value), kind5, (fault6 : Value), one7, (next18 : Value), nine23, other24, ten25, same26, eleven27) ((IntKind.i64.wrap (total28 + x210_36)), (IntKind.i64.wrap (c29 + (1 : Int)))) w_34))))) ∧ ((decide (c29 < k3)) = false → D0 ((code0 : Value), k3, (part4 : Value), kind5, (fault6 : Value), one7, (next18 : Value), nine23, other24, ten25, same26, eleven27, total28, ()) w))

abbrev L_laws_FnSumParts_22_e0 : List Slot := [.k .any, .junk, .junk, .k (.int .i64), .k .any, .k (.int .i64), .k .any, .k (.int .i64), .junk, .junk, .junk, .junk, .junk, .junk, .junk, .junk, .junk, .junk, .k .any, .junk, .junk, .junk, .junk, .k (.int .i64), .k (.int .i64), .k (.int .i64), .k (.int .i64), .k (.int .i64), .k (.int .i64), .junk, .junk, .junk, .junk, .junk, .junk, .junk, .junk, .junk, .junk, .junk, .junk, .junk, .junk, .junk, .junk, .junk, .junk, .junk, .junk, .junk, .junk, .junk, .junk, .junk, .junk, .junk, .junk, .junk, .junk, .junk, .junk, .junk, .junk, .junk, .junk, .junk, .junk, .junk, .junk, .junk, .junk, .junk, .junk, .junk, .junk, .junk, .junk, .junk, .junk, .junk, .junk, .junk, .junk, .junk, .junk, .junk, .junk, .junk, .junk, .junk, .junk, .junk, .junk, .junk, .junk, .junk, .junk, .junk, .junk, .junk, .junk, .junk, .junk, .junk, .junk, .junk, .junk, .junk, .junk, .junk, .junk, .junk, .junk, .junk, .junk, .junk, .junk, .junk, .junk, .junk, .junk, .junk, .junk, .junk, .junk, .junk, .junk, .junk, .junk, .junk, .junk, .junk, .junk, .junk, .junk, .junk, .junk, .junk, .junk, .junk, .junk, .junk, .junk, .junk, .junk, .junk, .junk, .junk, .junk, .junk, .junk, .junk, .junk, .junk, .junk, .junk, .junk, .junk, .junk, .junk, .junk, .junk, .junk, .junk, .junk, .junk, .junk, .junk, .junk, .junk, .junk, .junk, .junk, .junk, .junk, .junk, .junk, .junk, .junk, .junk, .junk, .junk, .junk, .junk, .junk, .junk, .junk, .junk, .junk, .junk, .junk, .junk, .junk, .junk, .junk, .junk, .junk, .junk, .junk, .junk, .junk, .junk, .junk, .junk, .junk, .junk, .junk, .junk, .junk, .junk, .junk, .junk, .junk, .junk, .junk, .junk, .junk, .junk, .junk, .junk, .junk, .junk, .junk, .junk, .junk, .junk, .junk, .junk, .junk, .junk, .junk, .junk, .junk, .junk, .junk, .junk, .junk, .junk, .junk, .junk, .junk, .junk, .junk, .junk, .junk, .junk, .junk, .junk, .junk, .junk, .junk, .junk, .junk, .junk, .junk, .junk, .junk, .junk, .junk, .junk, .junk, .junk, .junk, .junk, .junk, .junk, .junk, .junk, .junk, .junk, .junk, .junk, .junk, .junk, .junk, .junk, .junk, .junk, .junk, .junk, .junk, .junk, .junk, .junk, .junk, .junk, .junk, .junk, .junk, .junk, .junk, .junk, .junk, .junk, .junk, .junk, .junk, .junk, .junk, .junk, .junk, .junk, .junk, .junk, .junk, .junk, .junk, .junk, .junk, .junk, .junk, .junk, .junk, .junk, .junk, .junk, .junk, .junk, .junk, .junk, .junk, .junk, .junk, .junk, .junk, .junk, .junk, .junk, .junk, .junk, .junk, .junk, .junk, .junk, .junk, .junk, .junk, .junk, .junk, .junk, .junk, .junk, .junk, .junk, .junk, .junk, .junk, .junk, .junk, .junk, .junk, .junk, .junk, .junk, .junk, .junk, .junk, .junk, .junk, .junk, .junk, .junk, .junk, .junk, .junk, .junk, .junk, .junk, .junk, .junk, .junk, .junk, .junk, .junk, .junk, .junk, .junk, .junk, .junk, .junk, .junk, .junk, .junk, .junk, .junk, .junk, .junk, .junk, .junk, .junk, .junk, .junk, .junk, .junk, .junk, .junk, .junk, .junk, .junk, .junk, .junk, .junk, .junk, .junk, .junk, .junk, .junk, .junk, .junk, .junk, .junk, .junk, .junk, .junk, .junk, .junk, .junk, .junk, .junk, .junk, .junk, .junk, .junk, .junk]

abbrev L_laws_FnSumParts_22_sp : List Slot := [.k .any, .junk, .junk, .k (.int .i64), .k .any, .k (.int .i64), .k .any, .k (.int .i64), .junk, .junk, .junk, .junk, .junk, .junk, .junk, .junk, .junk, .junk, .k .any, .junk, .junk, .junk, .junk, .k (.int .i64), .k (.int .i64), .k (.int .i64), .k (.int .i64), .k (.int .i64), .k (.int .i64), .k (.int .i64), .junk, .junk, .junk, .junk, .junk, .junk, .junk, .junk, .junk, .junk, .junk, .junk, .junk, .junk, .junk, .junk, .junk, .junk, .junk, .junk, .junk, .junk, .junk, .junk, .junk, .junk, .junk, .junk, .junk, .junk, .junk, .junk, .junk, .junk, .junk, .junk, .junk, .junk, .junk, .junk, .junk, .junk, .junk, .junk, .junk, .junk, .junk, .junk, .junk, .junk, .junk, .junk, .junk, .junk, .junk, .junk, .junk, .junk, .junk, .junk, .junk, .junk, .junk, .junk, .junk, .junk, .junk, .junk, .junk, .junk, .junk, .junk, .junk, .junk, .junk, .junk, .junk, .junk, .junk, .junk, .junk, .junk, .junk, .junk, .junk, .junk, .junk, .junk, .junk, .junk, .junk, .junk, .junk, .junk, .junk, .junk, .junk, .junk, .junk, .junk, .junk, .junk, .junk, .junk, .junk, .junk, .junk, .junk, .junk, .junk, .junk, .junk, .junk, .junk, .junk, .junk, .junk, .junk, .junk, .junk, .junk, .junk, .junk, .junk, .junk, .junk, .junk, .junk, .junk, .junk, .junk, .junk, .junk, .junk, .junk, .junk, .junk, .junk, .junk, .junk, .junk, .junk, .junk, .junk, .junk, .junk, .junk, .junk, .junk, .junk, .junk, .junk, .junk, .junk, .junk, .junk, .junk, .junk, .junk, .junk, .junk, .junk, .junk, .junk, .junk, .junk, .junk, .junk, .junk, .junk, .junk, .junk, .junk, .junk, .junk, .junk, .junk, .junk, .junk, .junk, .junk, .junk, .junk, .junk, .junk, .junk, .junk, .junk, .junk, .junk, .junk, .junk, .junk, .junk, .junk, .junk, .junk, .junk, .junk, .junk, .junk, .junk, .junk, .junk, .junk, .junk, .junk, .junk, .junk, .junk, .junk, .junk, .junk, .junk, .junk, .junk, .junk, .junk, .junk, .junk, .junk, .junk, .junk, .junk, .junk, .junk, .junk, .junk, .junk, .junk, .junk, .junk, .junk, .junk, .junk, .junk, .junk, .junk, .junk, .junk, .junk, .junk, .junk, .junk, .junk, .junk, .junk, .junk, .junk, .junk, .junk, .junk, .junk, .junk, .junk, .junk, .junk, .junk, .junk, .junk, .junk, .junk, .junk, .junk, .junk, .junk, .junk, .junk, .junk, .junk, .junk, .junk, .junk, .junk, .junk, .junk, .junk, .junk, .junk, .junk, .junk, .junk, .junk, .junk, .junk, .junk, .junk, .junk, .junk, .junk, .junk, .junk, .junk, .junk, .junk, .junk, .junk, .junk, .junk, .junk, .junk, .junk, .junk, .junk, .junk, .junk, .junk, .junk, .junk, .junk, .junk, .junk, .junk, .junk, .junk, .junk, .junk, .junk, .junk, .junk, .junk, .junk, .junk, .junk, .junk, .junk, .junk, .junk, .junk, .junk, .junk, .junk, .junk, .junk, .junk, .junk, .junk, .junk, .junk, .junk, .junk, .junk, .junk, .junk, .junk, .junk, .junk, .junk, .junk, .junk, .junk, .junk, .junk, .junk, .junk, .junk, .junk, .junk, .junk, .junk, .junk, .junk, .junk, .junk, .junk, .junk, .junk, .junk, .junk, .junk, .junk, .junk, .junk, .junk, .junk, .junk, .junk, .junk, .junk, .junk, .junk, .junk, .junk, .junk, .junk, .junk, .junk, .junk, .junk, .junk, .junk, .junk, .junk, .junk]
abbrev L_laws_FnSumParts_22_ex : List (Nat × List Slot) := [(0, L_laws_FnSumParts_22_e0)]
abbrev L_laws_FnSumParts_22_rt : List Slot := [.junk, .junk, .k .bool, .junk, .junk, .junk, .junk, .junk, .junk, .junk, .junk, .junk, .junk, .junk, .junk, .junk, .junk, .junk, .junk, .junk, .junk, .junk, .junk, .junk, .junk, .junk, .junk, .junk, .junk, .junk, .junk, .junk, .junk, .junk, .junk, .junk, .junk, .junk, .junk, .junk, .junk, .junk, .junk, .junk, .junk, .junk, .junk, .junk, .junk, .junk, .junk, .junk, .junk, .junk, .junk, .junk, .junk, .junk, .junk, .junk, .junk, .junk, .junk, .junk, .junk, .junk, .junk, .junk, .junk, .junk, .junk, .junk, .junk, .junk, .junk, .junk, .junk, .junk, .junk, .junk, .junk, .junk, .junk, .junk, .junk, .junk, .junk, .junk, .junk, .junk, .junk, .junk, .junk, .junk, .junk, .junk, .junk, .junk, .junk, .junk, .junk, .junk, .junk, .junk, .junk, .junk, .junk, .junk, .junk, .junk, .junk, .junk, .junk, .junk, .junk, .junk, .junk, .junk, .junk, .junk, .junk, .junk, .junk, .junk, .junk, .junk, .junk, .junk, .junk, .junk, .junk, .junk, .junk, .junk, .junk, .junk, .junk, .junk, .junk, .junk, .junk, .junk, .junk, .junk, .junk, .junk, .junk, .junk, .junk, .junk, .junk, .junk, .junk, .junk, .junk, .junk, .junk, .junk, .junk, .junk, .junk, .junk, .junk, .junk, .junk, .junk, .junk, .junk, .junk, .junk, .junk, .junk, .junk, .junk, .junk, .junk, .junk, .junk, .junk, .junk, .junk, .junk, .junk, .junk, .junk, .junk, .junk, .junk, .junk, .junk, .junk, .junk, .junk, .junk, .junk, .junk, .junk, .junk, .junk, .junk, .junk, .junk, .junk, .junk, .junk, .junk, .junk, .junk, .junk, .junk, .junk, .junk, .junk, .junk, .junk, .junk, .junk, .junk, .junk, .junk, .junk, .junk, .junk, .junk, .junk, .junk, .junk, .junk, .junk, .junk, .junk, .junk, .junk, .junk, .junk, .junk, .junk, .junk, .junk, .junk, .junk, .junk, .junk, .junk, .junk, .junk, .junk, .junk, .junk, .junk, .junk, .junk, .junk, .junk, .junk, .junk, .junk, .junk, .junk, .junk, .junk, .junk, .junk, .junk, .junk, .junk, .junk, .junk, .junk, .junk, .junk, .junk, .junk, .junk, .junk, .junk, .junk, .junk, .junk, .junk, .junk, .junk, .junk, .junk, .junk, .junk, .junk, .junk, .junk, .junk, .junk, .junk, .junk, .junk, .junk, .junk, .junk, .junk, .junk, .junk, .junk, .junk, .junk, .junk, .junk, .junk, .junk, .junk, .junk, .junk, .junk, .junk, .junk, .junk, .junk, .junk, .junk, .junk, .junk, .junk, .junk, .junk, .junk, .junk, .junk, .junk, .junk, .junk, .junk, .junk, .junk, .junk, .junk, .junk, .junk, .junk, .junk, .junk, .junk, .junk, .junk, .junk, .junk, .junk, .junk, .junk, .junk, .junk, .junk, .junk, .junk, .junk, .junk, .junk, .junk, .junk, .junk, .junk, .junk, .junk, .junk, .junk, .junk, .junk, .junk, .junk, .junk, .junk, .junk, .junk, .junk, .junk, .junk, .junk, .junk, .junk, .junk, .junk, .junk, .junk, .junk, .junk, .junk, .junk, .junk, .junk, .junk, .junk, .junk, .junk, .junk, .junk, .junk, .junk, .junk, .junk, .junk, .junk, .junk, .junk, .junk, .junk, .junk, .junk, .junk, .junk, .junk, .junk, .junk, .junk, .junk, .junk, .junk, .junk, .junk, .junk, .junk, .junk, .junk, .junk, .junk, .junk, .junk, .junk]

def L_laws_FnSumParts_22_b (Φ : Post) (u : (Value × Int × Value × Int × Value × Int × Value × Int × Int × Int × Int × Int)) (N : (Value × Int × Value × Int × Value × Int × Value × Int × Int × Int × Int × Int) → (Int × Int) → World → Prop) (s : (Int × Int)) (w : World) : Prop :=
  B_laws_FnSumParts_22 u.1 u.2.1 u.2.2.1 u.2.2.2.1 u.2.2.2.2.1 u.2.2.2.2.2.1 u.2.2.2.2.2.2.1 u.2.2.2.2.2.2.2.1 u.2.2.2.2.2.2.2.2.1 u.2.2.2.2.2.2.2.2.2.1 u.2.2.2.2.2.2.2.2.2.2.1 u.2.2.2.2.2.2.2.2.2.2.2 s.1 s.2 N (fun v w => ∀ j : Nat → Value, Φ (.exit 0) (mkT j 0 L_laws_FnSumParts_22_e0 v) w) (fun v w => ∀ j : Nat → Value, Φ .ret (mkT j 0 L_laws_FnSumParts_22_rt v) w) w

theorem L_laws_FnSumParts_22_eq (j : Nat → Value) (u : (Value × Int × Value × Int × Value × Int × Value × Int × Int × Int × Int × Int)) (s : (Int × Int)) (N : (Value × Int × Value × Int × Value × Int × Value × Int × Int × Int × Int × Int) → (Int × Int) → World → Prop) (D0 : (Value × Int × Value × Int × Value × Int × Value × Int × Int × Int × Int × Int × Int × Unit) → World → Prop) (R : (Bool × Unit) → World → Prop) (w : World) :
    W Try.prog ty (fun _ _ _ _ => False) (loopAt Try.f3 22) (loopPost L_laws_FnSumParts_22_sp [(0, (⟨L_laws_FnSumParts_22_e0, D0⟩ : Door))] ⟨L_laws_FnSumParts_22_rt, R⟩ (fun v w => N ((fun v => (v.1, v.2.1, v.2.2.1, v.2.2.2.1, v.2.2.2.2.1, v.2.2.2.2.2.1, v.2.2.2.2.2.2.1, v.2.2.2.2.2.2.2.1, v.2.2.2.2.2.2.2.2.1, v.2.2.2.2.2.2.2.2.2.1, v.2.2.2.2.2.2.2.2.2.2.1, v.2.2.2.2.2.2.2.2.2.2.2.1)) v) ((fun v => (v.2.2.2.2.2.2.2.2.2.2.2.2.1, v.2.2.2.2.2.2.2.2.2.2.2.2.2.1)) v) w)) (mkT j 0 L_laws_FnSumParts_22_sp ((fun u s => (u.1, u.2.1, u.2.2.1, u.2.2.2.1, u.2.2.2.2.1, u.2.2.2.2.2.1, u.2.2.2.2.2.2.1, u.2.2.2.2.2.2.2.1, u.2.2.2.2.2.2.2.2.1, u.2.2.2.2.2.2.2.2.2.1, u.2.2.2.2.2.2.2.2.2.2.1, u.2.2.2.2.2.2.2.2.2.2.2, s.1, s.2, ())) u s)) w =
    B_laws_FnSumParts_22 u.1 u.2.1 u.2.2.1 u.2.2.2.1 u.2.2.2.2.1 u.2.2.2.2.2.1 u.2.2.2.2.2.2.1 u.2.2.2.2.2.2.2.1 u.2.2.2.2.2.2.2.2.1 u.2.2.2.2.2.2.2.2.2.1 u.2.2.2.2.2.2.2.2.2.2.1 u.2.2.2.2.2.2.2.2.2.2.2 s.1 s.2 N D0 R w := by
  kernel_rfl

def O_laws_FnSumParts_1 : Code → Post → List SV → World → Prop :=
  orc 22 (loopAt Try.f3 22) L_laws_FnSumParts_22_sp (fun Φ fr w => LOOP (U := (Value × Int × Value × Int × Value × Int × Value × Int × Int × Int × Int × Int)) (S := (Int × Int)) ((fun v => (v.1, v.2.1, v.2.2.1, v.2.2.2.1, v.2.2.2.2.1, v.2.2.2.2.2.1, v.2.2.2.2.2.2.1, v.2.2.2.2.2.2.2.1, v.2.2.2.2.2.2.2.2.1, v.2.2.2.2.2.2.2.2.2.1, v.2.2.2.2.2.2.2.2.2.2.1, v.2.2.2.2.2.2.2.2.2.2.2.1)) (extT L_laws_FnSumParts_22_sp fr)) (L_laws_FnSumParts_22_b Φ ((fun v => (v.1, v.2.1, v.2.2.1, v.2.2.2.1, v.2.2.2.2.1, v.2.2.2.2.2.1, v.2.2.2.2.2.2.1, v.2.2.2.2.2.2.2.1, v.2.2.2.2.2.2.2.2.1, v.2.2.2.2.2.2.2.2.2.1, v.2.2.2.2.2.2.2.2.2.2.1, v.2.2.2.2.2.2.2.2.2.2.2.1)) (extT L_laws_FnSumParts_22_sp fr))) ((fun v => (v.2.2.2.2.2.2.2.2.2.2.2.2.1, v.2.2.2.2.2.2.2.2.2.2.2.2.2.1)) (extT L_laws_FnSumParts_22_sp fr)) w) (fun _ _ _ _ => False)

theorem O_laws_FnSumParts_1_ok : Sound Try.prog O_laws_FnSumParts_1 :=
  orc_ok (sound_none _) fun Φ fr w hs h => loop_ok (ty := ty) follows (sound_none _) L_laws_FnSumParts_22_sp (fun v => (v.1, v.2.1, v.2.2.1, v.2.2.2.1, v.2.2.2.2.1, v.2.2.2.2.2.1, v.2.2.2.2.2.2.1, v.2.2.2.2.2.2.2.1, v.2.2.2.2.2.2.2.2.1, v.2.2.2.2.2.2.2.2.2.1, v.2.2.2.2.2.2.2.2.2.2.1, v.2.2.2.2.2.2.2.2.2.2.2.1)) (fun v => (v.2.2.2.2.2.2.2.2.2.2.2.2.1, v.2.2.2.2.2.2.2.2.2.2.2.2.2.1)) (fun u s => (u.1, u.2.1, u.2.2.1, u.2.2.2.1, u.2.2.2.2.1, u.2.2.2.2.2.1, u.2.2.2.2.2.2.1, u.2.2.2.2.2.2.2.1, u.2.2.2.2.2.2.2.2.1, u.2.2.2.2.2.2.2.2.2.1, u.2.2.2.2.2.2.2.2.2.2.1, u.2.2.2.2.2.2.2.2.2.2.2, s.1, s.2, ())) (fun _ => rfl) L_laws_FnSumParts_22_ex L_laws_FnSumParts_22_rt (body := L_laws_FnSumParts_22_b Φ) (fun j u s w N hb => by
    have e := L_laws_FnSumParts_22_eq j u s N (doorOf Φ (.exit 0) L_laws_FnSumParts_22_e0).D (doorOf Φ .ret L_laws_FnSumParts_22_rt).D w
    exact Eq.mpr e hb) hs h

def B_laws_FnSumParts_31 (code0 : Value) (k3 : Int) (part4 : Value) (kind5 : Int) (fault6 : Value) (one7 : Int) (next18 : Value) (i32 : Int) (N : (Value × Int × Value × Int × Value × Int × Value) → Int → World → Prop) (D2 : (Value × Value × Int × Value × Int × Unit) → World → Prop) (R : (Bool × Unit) → World → Prop) (w : World) : Prop :=
  (QAll Try.prog (Builtin.len_ #[24] 3 #[next18]) (.int .i64) fun (x235_47 : Int) => (((decide (i32 < x235_47)) = true → (∀ w_48, Drew w w_48 → (QAll Try.prog (Instr.indexAt 24 next18 (.int .i64 i32)) .any fun (x246_49 : Value) => (QSub Try.prog (Instr.loadAt 2 x246_49) w_48 (.int .i64) fun (x247_50 : Int) => ((Pr Try.prog (Instr.buildSlice 24 0 #[]) w_48 (.one .any) fun (x241_52 : Value) w_51 => (Keeps w_48 w_51 (((Pr Try.prog (Builtin.append_ #[24, 24] 24 #[x241_52, part4]) w_51 (.one .any) fun (x243_54 : Value) w_53 => (Keeps w_48 w_53 ((Pr Try.prog (Instr.buildSlice 24 1 #[(0, (.int .i64 x247_50))]) w_53 (.one .any) fun (x248_56 : Value) w_55 => (Pr Try.prog (Builtin.append_ #[24, 24] 24 #[x243_54, x248_56]) w_55 (.one .any) fun (x249_58 : Value) w_57 => (Fc Try.prog 10 #[(.int .i64 k3), x249_58, (.int .i64 kind5)] w_57 (.two .bool (.int .i64)) fun (x251_60 : Bool × Int) w_59 => (((x251_60.2 != (0 : Int)) = true → R (false, ()) w_59) ∧ ((x251_60.2 != (0 : Int)) = false → (((!x251_60.1) = true → R (false, ()) w_59) ∧ ((!x251_60.1) = false → N ((code0 : Value), k3, (part4 : Value), kind5, (fault6 : Value), one7, (next18 : Value)) (IntKind.i64.wrap (i32 + (1 : Int))) w_59)))))))))) ∧ (Pr Try.prog (Instr.buildSlice 24 1 #[(0, (.int .i64 x247_50))]) w_51 (.one .any) fun (x248_62 : Value) w_61 => (Pr Try.prog (Builtin.append_ #[24, 24] 24 #[x241_52, part4]) w_61 (.one .any) fun (x243_64 : Value) w_63 => (Pr Try.prog (Builtin.append_ #[24, 24] 24 #[x243_64, x248_62]) w_63 (.one .any) fun (x249_66 : Value) w_65 => (Fc Try.prog 10 #[(.int .i64 k3), x249_66, (.int .i64 kind5)] w_65 (.two .bool (.int .i64)) fun (x251_68 : Bool × Int) w_67 => (((x251_68.2 != (0 : Int)) = true → R (false, ()) w_67) ∧ ((x251_68.2 != (0 : Int)) = false → (((!x251_68.1) = true → R (false, ()) w_67) ∧ ((!x251_68.1) = false → N ((code0 : Value), k3, (part4 : Value), kind5, (fault6 : Value), one7, (next18 : Value)) (IntKind.i64.wrap (i32 + (1 : Int))) w_67)))))))))))) ∧ (Pr Try.prog (Instr.buildSlice 24 1 #[(0, (.int .i64 x247_50))]) w_48 (.one .any) fun (x248_70 : Value) w_69 => (Pr Try.prog (Instr.buildSlice 24 0 #[]) w_69 (.one .any) fun (x241_72 : Value) w_71 => (Pr Try.prog (Builtin.append_ #[24, 24] 24 #[x241_72, part4]) w_71 (.one .any) fun (x243_74 : Value) w_73 => (Pr Try.prog (Builtin.append_ #[24, 24] 24 #[x243_74, x248_70]) w_73 (.one .any) fun (x249_76 : Value) w_75 => (Fc Try.prog 10 #[(.int .i64 k3), x249_76, (.int .i64 kind5)] w_75 (.two .bool (.int .i64)) fun (x251_78 : Bool × Int) w_77 => (((x251_78.2 != (0 : Int)) = true → R (false, ()) w_77) ∧ ((x251_78.2 != (0 : Int)) = false → (((!x251_78.1) = true → R (false, ()) w_77) ∧ ((!x251_78.1) = false → N ((code0 : Value), k3, (part4 : Value), kind5, (fault6 : Value), one7, (next18 : Value)) (IntKind.i64.wrap (i32 + (1 : Int))) w_77)))))))))))))) ∧ ((decide (i32 < x235_47)) = false → D2 ((code0 : Value), (part4 : Value), kind5, (fault6 : Value), one7, ()) w)))

abbrev L_laws_FnSumParts_31_e2 : List Slot := [.k .any, .junk, .junk, .junk, .k .any, .k (.int .i64), .k .any, .k (.int .i64), .junk, .junk, .junk, .junk, .junk, .junk, .junk, .junk, .junk, .junk, .junk, .junk, .junk, .junk, .junk, .junk, .junk, .junk, .junk, .junk, .junk, .junk, .junk, .junk, .junk, .junk, .junk, .junk, .junk, .junk, .junk, .junk, .junk, .junk, .junk, .junk, .junk, .junk, .junk, .junk, .junk, .junk, .junk, .junk, .junk, .junk, .junk, .junk, .junk, .junk, .junk, .junk, .junk, .junk, .junk, .junk, .junk, .junk, .junk, .junk, .junk, .junk, .junk, .junk, .junk, .junk, .junk, .junk, .junk, .junk, .junk, .junk, .junk, .junk, .junk, .junk, .junk, .junk, .junk, .junk, .junk, .junk, .junk, .junk, .junk, .junk, .junk, .junk, .junk, .junk, .junk, .junk, .junk, .junk, .junk, .junk, .junk, .junk, .junk, .junk, .junk, .junk, .junk, .junk, .junk, .junk, .junk, .junk, .junk, .junk, .junk, .junk, .junk, .junk, .junk, .junk, .junk, .junk, .junk, .junk, .junk, .junk, .junk, .junk, .junk, .junk, .junk, .junk, .junk, .junk, .junk, .junk, .junk, .junk, .junk, .junk, .junk, .junk, .junk, .junk, .junk, .junk, .junk, .junk, .junk, .junk, .junk, .junk, .junk, .junk, .junk, .junk, .junk, .junk, .junk, .junk, .junk, .junk, .junk, .junk, .junk, .junk, .junk, .junk, .junk, .junk, .junk, .junk, .junk, .junk, .junk, .junk, .junk, .junk, .junk, .junk, .junk, .junk, .junk, .junk, .junk, .junk, .junk, .junk, .junk, .junk, .junk, .junk, .junk, .junk, .junk, .junk, .junk, .junk, .junk, .junk, .junk, .junk, .junk, .junk, .junk, .junk, .junk, .junk, .junk, .junk, .junk, .junk, .junk, .junk, .junk, .junk, .junk, .junk, .junk, .junk, .junk, .junk, .junk, .junk, .junk, .junk, .junk, .junk, .junk, .junk, .junk, .junk, .junk, .junk, .junk, .junk, .junk, .junk, .junk, .junk, .junk, .junk, .junk, .junk, .junk, .junk, .junk, .junk, .junk, .junk, .junk, .junk, .junk, .junk, .junk, .junk, .junk, .junk, .junk, .junk, .junk, .junk, .junk, .junk, .junk, .junk, .junk, .junk, .junk, .junk, .junk, .junk, .junk, .junk, .junk, .junk, .junk, .junk, .junk, .junk, .junk, .junk, .junk, .junk, .junk, .junk, .junk, .junk, .junk, .junk, .junk, .junk, .junk, .junk, .junk, .junk, .junk, .junk, .junk, .junk, .junk, .junk, .junk, .junk, .junk, .junk, .junk, .junk, .junk, .junk, .junk, .junk, .junk, .junk, .junk, .junk, .junk, .junk, .junk, .junk, .junk, .junk, .junk, .junk, .junk, .junk, .junk, .junk, .junk, .junk, .junk, .junk, .junk, .junk, .junk, .junk, .junk, .junk, .junk, .junk, .junk, .junk, .junk, .junk, .junk, .junk, .junk, .junk, .junk, .junk, .junk, .junk, .junk, .junk, .junk, .junk, .junk, .junk, .junk, .junk, .junk, .junk, .junk, .junk, .junk, .junk, .junk, .junk, .junk, .junk, .junk, .junk, .junk, .junk, .junk, .junk, .junk, .junk, .junk, .junk, .junk, .junk, .junk, .junk, .junk, .junk, .junk, .junk, .junk, .junk, .junk, .junk, .junk, .junk, .junk, .junk, .junk, .junk, .junk, .junk, .junk, .junk, .junk, .junk, .junk, .junk, .junk, .junk, .junk, .junk, .junk, .junk, .junk, .junk, .junk, .junk, .junk, .junk, .junk, .junk]

abbrev L_laws_FnSumParts_31_sp : List Slot := [.k .any, .junk, .junk, .k (.int .i64), .k .any, .k (.int .i64), .k .any, .k (.int .i64), .junk, .junk, .junk, .junk, .junk, .junk, .junk, .junk, .junk, .junk, .k .any, .junk, .junk, .junk, .junk, .junk, .junk, .junk, .junk, .junk, .junk, .junk, .junk, .junk, .k (.int .i64), .junk, .junk, .junk, .junk, .junk, .junk, .junk, .junk, .junk, .junk, .junk, .junk, .junk, .junk, .junk, .junk, .junk, .junk, .junk, .junk, .junk, .junk, .junk, .junk, .junk, .junk, .junk, .junk, .junk, .junk, .junk, .junk, .junk, .junk, .junk, .junk, .junk, .junk, .junk, .junk, .junk, .junk, .junk, .junk, .junk, .junk, .junk, .junk, .junk, .junk, .junk, .junk, .junk, .junk, .junk, .junk, .junk, .junk, .junk, .junk, .junk, .junk, .junk, .junk, .junk, .junk, .junk, .junk, .junk, .junk, .junk, .junk, .junk, .junk, .junk, .junk, .junk, .junk, .junk, .junk, .junk, .junk, .junk, .junk, .junk, .junk, .junk, .junk, .junk, .junk, .junk, .junk, .junk, .junk, .junk, .junk, .junk, .junk, .junk, .junk, .junk, .junk, .junk, .junk, .junk, .junk, .junk, .junk, .junk, .junk, .junk, .junk, .junk, .junk, .junk, .junk, .junk, .junk, .junk, .junk, .junk, .junk, .junk, .junk, .junk, .junk, .junk, .junk, .junk, .junk, .junk, .junk, .junk, .junk, .junk, .junk, .junk, .junk, .junk, .junk, .junk, .junk, .junk, .junk, .junk, .junk, .junk, .junk, .junk, .junk, .junk, .junk, .junk, .junk, .junk, .junk, .junk, .junk, .junk, .junk, .junk, .junk, .junk, .junk, .junk, .junk, .junk, .junk, .junk, .junk, .junk, .junk, .junk, .junk, .junk, .junk, .junk, .junk, .junk, .junk, .junk, .junk, .junk, .junk, .junk, .junk, .junk, .junk, .junk, .junk, .junk, .junk, .junk, .junk, .junk, .junk, .junk, .junk, .junk, .junk, .junk, .junk, .junk, .junk, .junk, .junk, .junk, .junk, .junk, .junk, .junk, .junk, .junk, .junk, .junk, .junk, .junk, .junk, .junk, .junk, .junk, .junk, .junk, .junk, .junk, .junk, .junk, .junk, .junk, .junk, .junk, .junk, .junk, .junk, .junk, .junk, .junk, .junk, .junk, .junk, .junk, .junk, .junk, .junk, .junk, .junk, .junk, .junk, .junk, .junk, .junk, .junk, .junk, .junk, .junk, .junk, .junk, .junk, .junk, .junk, .junk, .junk, .junk, .junk, .junk, .junk, .junk, .junk, .junk, .junk, .junk, .junk, .junk, .junk, .junk, .junk, .junk, .junk, .junk, .junk, .junk, .junk, .junk, .junk, .junk, .junk, .junk, .junk, .junk, .junk, .junk, .junk, .junk, .junk, .junk, .junk, .junk, .junk, .junk, .junk, .junk, .junk, .junk, .junk, .junk, .junk, .junk, .junk, .junk, .junk, .junk, .junk, .junk, .junk, .junk, .junk, .junk, .junk, .junk, .junk, .junk, .junk, .junk, .junk, .junk, .junk, .junk, .junk, .junk, .junk, .junk, .junk, .junk, .junk, .junk, .junk, .junk, .junk, .junk, .junk, .junk, .junk, .junk, .junk, .junk, .junk, .junk, .junk, .junk, .junk, .junk, .junk, .junk, .junk, .junk, .junk, .junk, .junk, .junk, .junk, .junk, .junk, .junk, .junk, .junk, .junk, .junk, .junk, .junk, .junk, .junk, .junk, .junk, .junk, .junk, .junk, .junk, .junk, .junk, .junk, .junk, .junk, .junk, .junk, .junk, .junk, .junk, .junk, .junk, .junk, .junk]
abbrev L_laws_FnSumParts_31_ex : List (Nat × List Slot) := [(2, L_laws_FnSumParts_31_e2)]
abbrev L_laws_FnSumParts_31_rt : List Slot := [.junk, .junk, .k .bool, .junk, .junk, .junk, .junk, .junk, .junk, .junk, .junk, .junk, .junk, .junk, .junk, .junk, .junk, .junk, .junk, .junk, .junk, .junk, .junk, .junk, .junk, .junk, .junk, .junk, .junk, .junk, .junk, .junk, .junk, .junk, .junk, .junk, .junk, .junk, .junk, .junk, .junk, .junk, .junk, .junk, .junk, .junk, .junk, .junk, .junk, .junk, .junk, .junk, .junk, .junk, .junk, .junk, .junk, .junk, .junk, .junk, .junk, .junk, .junk, .junk, .junk, .junk, .junk, .junk, .junk, .junk, .junk, .junk, .junk, .junk, .junk, .junk, .junk, .junk, .junk, .junk, .junk, .junk, .junk, .junk, .junk, .junk, .junk, .junk, .junk, .junk, .junk, .junk, .junk, .junk, .junk, .junk, .junk, .junk, .junk, .junk, .junk, .junk, .junk, .junk, .junk, .junk, .junk, .junk, .junk, .junk, .junk, .junk, .junk, .junk, .junk, .junk, .junk, .junk, .junk, .junk, .junk, .junk, .junk, .junk, .junk, .junk, .junk, .junk, .junk, .junk, .junk, .junk, .junk, .junk, .junk, .junk, .junk, .junk, .junk, .junk, .junk, .junk, .junk, .junk, .junk, .junk, .junk, .junk, .junk, .junk, .junk, .junk, .junk, .junk, .junk, .junk, .junk, .junk, .junk, .junk, .junk, .junk, .junk, .junk, .junk, .junk, .junk, .junk, .junk, .junk, .junk, .junk, .junk, .junk, .junk, .junk, .junk, .junk, .junk, .junk, .junk, .junk, .junk, .junk, .junk, .junk, .junk, .junk, .junk, .junk, .junk, .junk, .junk, .junk, .junk, .junk, .junk, .junk, .junk, .junk, .junk, .junk, .junk, .junk, .junk, .junk, .junk, .junk, .junk, .junk, .junk, .junk, .junk, .junk, .junk, .junk, .junk, .junk, .junk, .junk, .junk, .junk, .junk, .junk, .junk, .junk, .junk, .junk, .junk, .junk, .junk, .junk, .junk, .junk, .junk, .junk, .junk, .junk, .junk, .junk, .junk, .junk, .junk, .junk, .junk, .junk, .junk, .junk, .junk, .junk, .junk, .junk, .junk, .junk, .junk, .junk, .junk, .junk, .junk, .junk, .junk, .junk, .junk, .junk, .junk, .junk, .junk, .junk, .junk, .junk, .junk, .junk, .junk, .junk, .junk, .junk, .junk, .junk, .junk, .junk, .junk, .junk, .junk, .junk, .junk, .junk, .junk, .junk, .junk, .junk, .junk, .junk, .junk, .junk, .junk, .junk, .junk, .junk, .junk, .junk, .junk, .junk, .junk, .junk, .junk, .junk, .junk, .junk, .junk, .junk, .junk, .junk, .junk, .junk, .junk, .junk, .junk, .junk, .junk, .junk, .junk, .junk, .junk, .junk, .junk, .junk, .junk, .junk, .junk, .junk, .junk, .junk, .junk, .junk, .junk, .junk, .junk, .junk, .junk, .junk, .junk, .junk, .junk, .junk, .junk, .junk, .junk, .junk, .junk, .junk, .junk, .junk, .junk, .junk, .junk, .junk, .junk, .junk, .junk, .junk, .junk, .junk, .junk, .junk, .junk, .junk, .junk, .junk, .junk, .junk, .junk, .junk, .junk, .junk, .junk, .junk, .junk, .junk, .junk, .junk, .junk, .junk, .junk, .junk, .junk, .junk, .junk, .junk, .junk, .junk, .junk, .junk, .junk, .junk, .junk, .junk, .junk, .junk, .junk, .junk, .junk, .junk, .junk, .junk, .junk, .junk, .junk, .junk, .junk, .junk, .junk, .junk, .junk, .junk, .junk, .junk, .junk, .junk, .junk, .junk, .junk, .junk, .junk, .junk]

def L_laws_FnSumParts_31_b (Φ : Post) (u : (Value × Int × Value × Int × Value × Int × Value)) (N : (Value × Int × Value × Int × Value × Int × Value) → Int → World → Prop) (s : Int) (w : World) : Prop :=
  B_laws_FnSumParts_31 u.1 u.2.1 u.2.2.1 u.2.2.2.1 u.2.2.2.2.1 u.2.2.2.2.2.1 u.2.2.2.2.2.2 s N (fun v w => ∀ j : Nat → Value, Φ (.exit 2) (mkT j 0 L_laws_FnSumParts_31_e2 v) w) (fun v w => ∀ j : Nat → Value, Φ .ret (mkT j 0 L_laws_FnSumParts_31_rt v) w) w

theorem L_laws_FnSumParts_31_eq (j : Nat → Value) (u : (Value × Int × Value × Int × Value × Int × Value)) (s : Int) (N : (Value × Int × Value × Int × Value × Int × Value) → Int → World → Prop) (D2 : (Value × Value × Int × Value × Int × Unit) → World → Prop) (R : (Bool × Unit) → World → Prop) (w : World) :
    W Try.prog ty O_laws_FnSumParts_1 (loopAt Try.f3 31) (loopPost L_laws_FnSumParts_31_sp [(2, (⟨L_laws_FnSumParts_31_e2, D2⟩ : Door))] ⟨L_laws_FnSumParts_31_rt, R⟩ (fun v w => N ((fun v => (v.1, v.2.1, v.2.2.1, v.2.2.2.1, v.2.2.2.2.1, v.2.2.2.2.2.1, v.2.2.2.2.2.2.1)) v) ((fun v => v.2.2.2.2.2.2.2.1) v) w)) (mkT j 0 L_laws_FnSumParts_31_sp ((fun u s => (u.1, u.2.1, u.2.2.1, u.2.2.2.1, u.2.2.2.2.1, u.2.2.2.2.2.1, u.2.2.2.2.2.2, s, ())) u s)) w =
    B_laws_FnSumParts_31 u.1 u.2.1 u.2.2.1 u.2.2.2.1 u.2.2.2.2.1 u.2.2.2.2.2.1 u.2.2.2.2.2.2 s N D2 R w := by
  kernel_rfl

def O_laws_FnSumParts_2 : Code → Post → List SV → World → Prop :=
  orc 31 (loopAt Try.f3 31) L_laws_FnSumParts_31_sp (fun Φ fr w => LOOP (U := (Value × Int × Value × Int × Value × Int × Value)) (S := Int) ((fun v => (v.1, v.2.1, v.2.2.1, v.2.2.2.1, v.2.2.2.2.1, v.2.2.2.2.2.1, v.2.2.2.2.2.2.1)) (extT L_laws_FnSumParts_31_sp fr)) (L_laws_FnSumParts_31_b Φ ((fun v => (v.1, v.2.1, v.2.2.1, v.2.2.2.1, v.2.2.2.2.1, v.2.2.2.2.2.1, v.2.2.2.2.2.2.1)) (extT L_laws_FnSumParts_31_sp fr))) ((fun v => v.2.2.2.2.2.2.2.1) (extT L_laws_FnSumParts_31_sp fr)) w) O_laws_FnSumParts_1

theorem O_laws_FnSumParts_2_ok : Sound Try.prog O_laws_FnSumParts_2 :=
  orc_ok O_laws_FnSumParts_1_ok fun Φ fr w hs h => loop_ok (ty := ty) follows O_laws_FnSumParts_1_ok L_laws_FnSumParts_31_sp (fun v => (v.1, v.2.1, v.2.2.1, v.2.2.2.1, v.2.2.2.2.1, v.2.2.2.2.2.1, v.2.2.2.2.2.2.1)) (fun v => v.2.2.2.2.2.2.2.1) (fun u s => (u.1, u.2.1, u.2.2.1, u.2.2.2.1, u.2.2.2.2.1, u.2.2.2.2.2.1, u.2.2.2.2.2.2, s, ())) (fun _ => rfl) L_laws_FnSumParts_31_ex L_laws_FnSumParts_31_rt (body := L_laws_FnSumParts_31_b Φ) (fun j u s w N hb => by
    have e := L_laws_FnSumParts_31_eq j u s N (doorOf Φ (.exit 2) L_laws_FnSumParts_31_e2).D (doorOf Φ .ret L_laws_FnSumParts_31_rt).D w
    exact Eq.mpr e hb) hs h

abbrev J_laws_FnSumParts_1 : List Slot := [.k .any, .junk, .junk, .k (.int .i64), .k .any, .k (.int .i64), .k .any, .k (.int .i64), .junk, .junk, .k .bool, .k (.int .i64), .junk, .junk, .k (.int .i64), .junk, .junk, .junk, .k .any, .junk, .junk, .junk, .junk, .junk, .junk, .junk, .junk, .junk, .junk, .junk, .junk, .junk, .junk, .junk, .junk, .junk, .junk, .junk, .junk, .junk, .junk, .junk, .junk, .junk, .junk, .junk, .junk, .junk, .junk, .junk, .junk, .junk, .junk, .junk, .junk, .junk, .junk, .junk, .junk, .junk, .junk, .junk, .junk, .junk, .junk, .junk, .junk, .junk, .junk, .junk, .junk, .junk, .junk, .junk, .junk, .junk, .junk, .junk, .junk, .junk, .junk, .junk, .junk, .junk, .junk, .junk, .junk, .junk, .junk, .junk, .junk, .junk, .junk, .junk, .junk, .junk, .junk, .junk, .junk, .junk, .junk, .junk, .junk, .junk, .junk, .junk, .junk, .junk, .junk, .junk, .junk, .junk, .junk, .junk, .junk, .junk, .junk, .junk, .junk, .junk, .junk, .junk, .junk, .junk, .junk, .junk, .junk, .junk, .junk, .junk, .junk, .junk, .junk, .junk, .junk, .junk, .junk, .junk, .junk, .junk, .junk, .junk, .junk, .junk, .junk, .junk, .junk, .junk, .junk, .junk, .junk, .junk, .junk, .junk, .junk, .junk, .junk, .junk, .junk, .junk, .junk, .junk, .junk, .junk, .junk, .junk, .junk, .junk, .junk, .junk, .junk, .junk, .junk, .junk, .junk, .junk, .junk, .junk, .junk, .junk, .junk, .junk, .junk, .junk, .junk, .junk, .junk, .junk, .junk, .junk, .junk, .junk, .junk, .junk, .junk, .junk, .junk, .junk, .junk, .junk, .junk, .junk, .junk, .junk, .junk, .junk, .junk, .junk, .junk, .junk, .junk, .junk, .junk, .junk, .junk, .junk, .junk, .junk, .junk, .junk, .junk, .junk, .junk, .junk, .junk, .junk, .junk, .junk, .junk, .junk, .junk, .junk, .junk, .junk, .junk, .junk, .junk, .junk, .junk, .junk, .junk, .junk, .junk, .junk, .junk, .junk, .junk, .junk, .junk, .junk, .junk, .junk, .junk, .junk, .junk, .junk, .junk, .junk, .junk, .junk, .junk, .junk, .junk, .junk, .junk, .junk, .junk, .junk, .junk, .junk, .junk, .junk, .junk, .junk, .junk, .junk, .junk, .junk, .junk, .junk, .junk, .junk, .junk, .junk, .junk, .junk, .junk, .junk, .junk, .junk, .junk, .junk, .junk, .junk, .junk, .junk, .junk, .junk, .junk, .junk, .junk, .junk, .junk, .junk, .junk, .junk, .junk, .junk, .junk, .junk, .junk, .junk, .junk, .junk, .junk, .junk, .junk, .junk, .junk, .junk, .junk, .junk, .junk, .junk, .junk, .junk, .junk, .junk, .junk, .junk, .junk, .junk, .junk, .junk, .junk, .junk, .junk, .junk, .junk, .junk, .junk, .junk, .junk, .junk, .junk, .junk, .junk, .junk, .junk, .junk, .junk, .junk, .junk, .junk, .junk, .junk, .junk, .junk, .junk, .junk, .junk, .junk, .junk, .junk, .junk, .junk, .junk, .junk, .junk, .junk, .junk, .junk, .junk, .junk, .junk, .junk, .junk, .junk, .junk, .junk, .junk, .junk, .junk, .junk, .junk, .junk, .junk, .junk, .junk, .junk, .junk, .junk, .junk, .junk, .junk, .junk, .junk, .junk, .junk, .junk, .junk, .junk, .junk, .junk, .junk, .junk, .junk, .junk, .junk, .junk, .junk, .junk, .junk, .junk, .junk, .junk, .junk, .junk, .junk, .junk, .junk, .junk, .junk, .junk]
abbrev T_laws_FnSumParts_1 : Type := (Value × Int × Value × Int × Value × Int × Bool × Int × Int × Value × Unit)

abbrev J_laws_FnSumParts_2 : List Slot := [.k .any, .junk, .junk, .k (.int .i64), .k .any, .k (.int .i64), .k .any, .k (.int .i64), .junk, .junk, .junk, .junk, .junk, .junk, .junk, .junk, .junk, .junk, .k .any, .junk, .junk, .junk, .junk, .junk, .junk, .junk, .junk, .junk, .junk, .junk, .junk, .junk, .junk, .junk, .junk, .junk, .junk, .junk, .junk, .junk, .junk, .junk, .junk, .junk, .junk, .junk, .junk, .junk, .junk, .junk, .junk, .junk, .junk, .junk, .junk, .junk, .junk, .junk, .junk, .junk, .junk, .junk, .junk, .junk, .junk, .junk, .junk, .junk, .junk, .junk, .junk, .junk, .junk, .junk, .junk, .junk, .junk, .junk, .junk, .junk, .junk, .junk, .junk, .junk, .junk, .junk, .junk, .junk, .junk, .junk, .junk, .junk, .junk, .junk, .junk, .junk, .junk, .junk, .junk, .junk, .junk, .junk, .junk, .junk, .junk, .junk, .junk, .junk, .junk, .junk, .junk, .junk, .junk, .junk, .junk, .junk, .junk, .junk, .junk, .junk, .junk, .junk, .junk, .junk, .junk, .junk, .junk, .junk, .junk, .junk, .junk, .junk, .junk, .junk, .junk, .junk, .junk, .junk, .junk, .junk, .junk, .junk, .junk, .junk, .junk, .junk, .junk, .junk, .junk, .junk, .junk, .junk, .junk, .junk, .junk, .junk, .junk, .junk, .junk, .junk, .junk, .junk, .junk, .junk, .junk, .junk, .junk, .junk, .junk, .junk, .junk, .junk, .junk, .junk, .junk, .junk, .junk, .junk, .junk, .junk, .junk, .junk, .junk, .junk, .junk, .junk, .junk, .junk, .junk, .junk, .junk, .junk, .junk, .junk, .junk, .junk, .junk, .junk, .junk, .junk, .junk, .junk, .junk, .junk, .junk, .junk, .junk, .junk, .junk, .junk, .junk, .junk, .junk, .junk, .junk, .junk, .junk, .junk, .junk, .junk, .junk, .junk, .junk, .junk, .junk, .junk, .junk, .junk, .junk, .junk, .junk, .junk, .junk, .junk, .junk, .junk, .junk, .junk, .junk, .junk, .junk, .junk, .junk, .junk, .junk, .junk, .junk, .junk, .junk, .junk, .junk, .junk, .junk, .junk, .junk, .junk, .junk, .junk, .junk, .junk, .junk, .junk, .junk, .junk, .junk, .junk, .junk, .junk, .junk, .junk, .junk, .junk, .junk, .junk, .junk, .junk, .junk, .junk, .junk, .junk, .junk, .junk, .junk, .junk, .junk, .junk, .junk, .junk, .junk, .junk, .junk, .junk, .junk, .junk, .junk, .junk, .junk, .junk, .junk, .junk, .junk, .junk, .junk, .junk, .junk, .junk, .junk, .junk, .junk, .junk, .junk, .junk, .junk, .junk, .junk, .junk, .junk, .junk, .junk, .junk, .junk, .junk, .junk, .junk, .junk, .junk, .junk, .junk, .junk, .junk, .junk, .junk, .junk, .junk, .junk, .junk, .junk, .junk, .junk, .junk, .junk, .junk, .junk, .junk, .junk, .junk, .junk, .junk, .junk, .junk, .junk, .junk, .junk, .junk, .junk, .junk, .junk, .junk, .junk, .junk, .junk, .junk, .junk, .junk, .junk, .junk, .junk, .junk, .junk, .junk, .junk, .junk, .junk, .junk, .junk, .junk, .junk, .junk, .junk, .junk, .junk, .junk, .junk, .junk, .junk, .junk, .junk, .junk, .junk, .junk, .junk, .junk, .junk, .junk, .junk, .junk, .junk, .junk, .junk, .junk, .junk, .junk, .junk, .junk, .junk, .junk, .junk, .junk, .junk, .junk, .junk, .junk, .junk, .junk, .junk, .junk, .junk, .junk, .junk, .junk, .junk, .junk, .junk, .junk]
abbrev T_laws_FnSumParts_2 : Type := (Value × Int × Value × Int × Value × Int × Value × Unit)

abbrev J_laws_FnSumParts_3 : List Slot := [.k .any, .junk, .junk, .junk, .k .any, .k (.int .i64), .k .any, .k (.int .i64), .junk, .junk, .junk, .junk, .junk, .junk, .junk, .junk, .junk, .junk, .junk, .junk, .junk, .junk, .junk, .junk, .junk, .junk, .junk, .junk, .junk, .junk, .junk, .junk, .junk, .junk, .junk, .junk, .junk, .junk, .junk, .junk, .junk, .junk, .junk, .junk, .junk, .junk, .junk, .junk, .junk, .junk, .junk, .junk, .junk, .junk, .junk, .junk, .junk, .junk, .junk, .junk, .junk, .junk, .junk, .junk, .junk, .junk, .junk, .junk, .junk, .junk, .junk, .junk, .junk, .junk, .junk, .junk, .junk, .junk, .junk, .junk, .junk, .junk, .junk, .junk, .junk, .junk, .junk, .junk, .junk, .junk, .junk, .junk, .junk, .junk, .junk, .junk, .junk, .junk, .junk, .junk, .junk, .junk, .junk, .junk, .junk, .junk, .junk, .junk, .junk, .junk, .junk, .junk, .junk, .junk, .junk, .junk, .junk, .junk, .junk, .junk, .junk, .junk, .junk, .junk, .junk, .junk, .junk, .junk, .junk, .junk, .junk, .junk, .junk, .junk, .junk, .junk, .junk, .junk, .junk, .junk, .junk, .junk, .junk, .junk, .junk, .junk, .junk, .junk, .junk, .junk, .junk, .junk, .junk, .junk, .junk, .junk, .junk, .junk, .junk, .junk, .junk, .junk, .junk, .junk, .junk, .junk, .junk, .junk, .junk, .junk, .junk, .junk, .junk, .junk, .junk, .junk, .junk, .junk, .junk, .junk, .junk, .junk, .junk, .junk, .junk, .junk, .junk, .junk, .junk, .junk, .junk, .junk, .junk, .junk, .junk, .junk, .junk, .junk, .junk, .junk, .junk, .junk, .junk, .junk, .junk, .junk, .junk, .junk, .junk, .junk, .junk, .junk, .junk, .junk, .junk, .junk, .junk, .junk, .junk, .junk, .junk, .junk, .junk, .junk, .junk, .junk, .junk, .junk, .junk, .junk, .junk, .junk, .junk, .junk, .junk, .junk, .junk, .junk, .junk, .junk, .junk, .junk, .junk, .junk, .junk, .junk, .junk, .junk, .junk, .junk, .junk, .junk, .junk, .junk, .junk, .junk, .junk, .junk, .junk, .junk, .junk, .junk, .junk, .junk, .junk, .junk, .junk, .junk, .junk, .junk, .junk, .junk, .junk, .junk, .junk, .junk, .junk, .junk, .junk, .junk, .junk, .junk, .junk, .junk, .junk, .junk, .junk, .junk, .junk, .junk, .junk, .junk, .junk, .junk, .junk, .junk, .junk, .junk, .junk, .junk, .junk, .junk, .junk, .junk, .junk, .junk, .junk, .junk, .junk, .junk, .junk, .junk, .junk, .junk, .junk, .junk, .junk, .junk, .junk, .junk, .junk, .junk, .junk, .junk, .junk, .junk, .junk, .junk, .junk, .junk, .junk, .junk, .junk, .junk, .junk, .junk, .junk, .junk, .junk, .junk, .junk, .junk, .junk, .junk, .junk, .junk, .junk, .junk, .junk, .junk, .junk, .junk, .junk, .junk, .junk, .junk, .junk, .junk, .junk, .junk, .junk, .junk, .junk, .junk, .junk, .junk, .junk, .junk, .junk, .junk, .junk, .junk, .junk, .junk, .junk, .junk, .junk, .junk, .junk, .junk, .junk, .junk, .junk, .junk, .junk, .junk, .junk, .junk, .junk, .junk, .junk, .junk, .junk, .junk, .junk, .junk, .junk, .junk, .junk, .junk, .junk, .junk, .junk, .junk, .junk, .junk, .junk, .junk, .junk, .junk, .junk, .junk, .junk, .junk, .junk, .junk, .junk, .junk, .junk, .junk, .junk, .junk, .junk, .junk]
abbrev T_laws_FnSumParts_3 : Type := (Value × Value × Int × Value × Int × Unit)

abbrev J_laws_FnSumParts_4 : List Slot := [.k .any, .junk, .junk, .junk, .junk, .junk, .junk, .junk, .junk, .junk, .junk, .junk, .junk, .junk, .junk, .junk, .junk, .junk, .junk, .junk, .junk, .junk, .junk, .junk, .junk, .junk, .junk, .junk, .junk, .junk, .junk, .junk, .junk, .junk, .junk, .junk, .junk, .junk, .junk, .junk, .junk, .junk, .junk, .junk, .junk, .junk, .junk, .junk, .junk, .junk, .junk, .junk, .junk, .junk, .junk, .junk, .junk, .junk, .junk, .junk, .junk, .junk, .junk, .junk, .junk, .junk, .junk, .junk, .junk, .junk, .junk, .junk, .junk, .junk, .junk, .junk, .junk, .junk, .junk, .junk, .junk, .junk, .junk, .junk, .junk, .junk, .junk, .junk, .junk, .junk, .junk, .junk, .junk, .junk, .junk, .junk, .junk, .junk, .junk, .junk, .junk, .junk, .junk, .junk, .junk, .junk, .junk, .junk, .junk, .junk, .junk, .junk, .junk, .junk, .junk, .junk, .junk, .junk, .junk, .junk, .junk, .junk, .junk, .junk, .junk, .junk, .junk, .junk, .junk, .junk, .junk, .junk, .junk, .junk, .junk, .junk, .junk, .junk, .junk, .junk, .junk, .junk, .junk, .junk, .junk, .junk, .junk, .junk, .junk, .junk, .junk, .junk, .junk, .junk, .junk, .junk, .junk, .junk, .junk, .junk, .junk, .junk, .junk, .junk, .junk, .junk, .junk, .junk, .junk, .junk, .junk, .junk, .junk, .junk, .junk, .junk, .junk, .junk, .junk, .junk, .junk, .junk, .junk, .junk, .junk, .junk, .junk, .junk, .junk, .junk, .junk, .junk, .junk, .junk, .junk, .junk, .junk, .junk, .junk, .junk, .junk, .junk, .junk, .junk, .junk, .junk, .junk, .junk, .junk, .junk, .junk, .junk, .junk, .junk, .junk, .junk, .junk, .junk, .junk, .junk, .junk, .junk, .junk, .junk, .junk, .junk, .junk, .junk, .junk, .junk, .junk, .junk, .junk, .junk, .junk, .junk, .junk, .junk, .junk, .junk, .junk, .junk, .junk, .junk, .junk, .junk, .junk, .junk, .junk, .junk, .junk, .junk, .junk, .junk, .junk, .junk, .junk, .junk, .junk, .junk, .junk, .junk, .junk, .junk, .junk, .junk, .junk, .junk, .junk, .junk, .junk, .junk, .junk, .junk, .junk, .junk, .junk, .junk, .junk, .junk, .junk, .junk, .junk, .junk, .junk, .junk, .junk, .junk, .junk, .junk, .junk, .junk, .junk, .junk, .junk, .junk, .junk, .junk, .junk, .junk, .junk, .junk, .junk, .junk, .junk, .junk, .junk, .junk, .junk, .junk, .junk, .junk, .junk, .junk, .junk, .junk, .junk, .junk, .junk, .junk, .junk, .junk, .junk, .junk, .junk, .junk, .junk, .junk, .junk, .junk, .junk, .junk, .junk, .junk, .junk, .junk, .junk, .junk, .junk, .junk, .junk, .junk, .junk, .junk, .junk, .junk, .junk, .junk, .junk, .junk, .junk, .junk, .junk, .junk, .junk, .junk, .junk, .junk, .junk, .junk, .junk, .junk, .junk, .junk, .junk, .junk, .junk, .junk, .junk, .junk, .junk, .junk, .junk, .junk, .junk, .junk, .junk, .junk, .junk, .junk, .junk, .junk, .junk, .junk, .junk, .junk, .junk, .junk, .junk, .junk, .junk, .junk, .junk, .junk, .junk, .junk, .junk, .junk, .junk, .junk, .junk, .junk, .junk, .junk, .junk, .junk, .junk, .junk, .junk, .junk, .junk, .junk, .junk, .junk, .junk, .junk, .junk, .junk, .junk, .junk, .junk, .junk, .junk, .junk]
abbrev T_laws_FnSumParts_4 : Type := (Value × Unit)

abbrev J_laws_FnSumParts_5 : List Slot := [.k .any, .junk, .junk, .junk, .junk, .junk, .junk, .junk, .junk, .junk, .junk, .junk, .junk, .junk, .junk, .junk, .junk, .junk, .junk, .junk, .junk, .junk, .junk, .junk, .junk, .junk, .junk, .junk, .junk, .junk, .junk, .junk, .junk, .junk, .junk, .junk, .junk, .junk, .junk, .junk, .junk, .junk, .junk, .junk, .junk, .junk, .junk, .junk, .junk, .junk, .junk, .junk, .junk, .junk, .junk, .junk, .junk, .junk, .junk, .junk, .junk, .junk, .junk, .junk, .junk, .junk, .junk, .junk, .junk, .junk, .junk, .junk, .junk, .junk, .junk, .junk, .junk, .junk, .junk, .junk, .junk, .junk, .junk, .junk, .junk, .junk, .junk, .junk, .junk, .junk, .junk, .junk, .junk, .junk, .junk, .junk, .junk, .junk, .junk, .junk, .junk, .junk, .junk, .junk, .junk, .junk, .junk, .junk, .junk, .junk, .junk, .junk, .junk, .junk, .junk, .junk, .junk, .junk, .junk, .junk, .junk, .junk, .junk, .junk, .junk, .junk, .junk, .junk, .junk, .junk, .junk, .junk, .junk, .junk, .junk, .junk, .junk, .junk, .junk, .junk, .junk, .junk, .junk, .junk, .junk, .junk, .junk, .junk, .junk, .junk, .junk, .junk, .junk, .junk, .junk, .junk, .junk, .junk, .junk, .junk, .junk, .junk, .junk, .junk, .junk, .junk, .junk, .junk, .junk, .junk, .junk, .junk, .junk, .junk, .junk, .junk, .junk, .junk, .junk, .junk, .junk, .junk, .junk, .junk, .junk, .junk, .junk, .junk, .junk, .junk, .junk, .junk, .junk, .junk, .junk, .junk, .junk, .junk, .junk, .junk, .junk, .junk, .junk, .junk, .junk, .junk, .junk, .junk, .junk, .junk, .junk, .junk, .junk, .junk, .junk, .junk, .junk, .junk, .junk, .junk, .junk, .junk, .junk, .junk, .junk, .junk, .junk, .junk, .junk, .junk, .junk, .junk, .junk, .junk, .junk, .junk, .junk, .junk, .junk, .junk, .junk, .junk, .junk, .junk, .junk, .junk, .junk, .junk, .junk, .junk, .junk, .junk, .junk, .junk, .junk, .junk, .junk, .junk, .junk, .junk, .junk, .junk, .junk, .junk, .junk, .junk, .junk, .junk, .junk, .junk, .junk, .junk, .junk, .junk, .junk, .junk, .junk, .junk, .junk, .junk, .junk, .junk, .junk, .junk, .junk, .junk, .junk, .junk, .junk, .junk, .junk, .junk, .junk, .junk, .junk, .junk, .junk, .junk, .junk, .junk, .junk, .junk, .junk, .junk, .junk, .junk, .junk, .junk, .junk, .junk, .junk, .junk, .junk, .junk, .junk, .junk, .junk, .junk, .junk, .junk, .junk, .junk, .junk, .junk, .junk, .junk, .junk, .junk, .junk, .junk, .junk, .junk, .junk, .junk, .junk, .junk, .junk, .junk, .junk, .junk, .junk, .junk, .junk, .junk, .junk, .junk, .junk, .junk, .junk, .junk, .junk, .junk, .junk, .junk, .junk, .junk, .junk, .junk, .junk, .junk, .junk, .junk, .junk, .junk, .junk, .junk, .junk, .junk, .junk, .junk, .junk, .junk, .junk, .junk, .junk, .junk, .junk, .junk, .junk, .junk, .junk, .junk, .junk, .junk, .junk, .junk, .junk, .junk, .junk, .junk, .junk, .junk, .junk, .junk, .junk, .junk, .junk, .junk, .junk, .junk, .junk, .junk, .junk, .junk, .junk, .junk, .junk, .junk, .junk, .junk, .junk, .junk, .junk, .junk, .junk, .junk, .junk, .junk, .junk, .junk, .junk, .junk, .junk, .junk]
abbrev T_laws_FnSumParts_5 : Type := (Value × Unit)

def V_laws_FnSumParts_0 (code0 : Value) (w : World) (J : T_laws_FnSumParts_1 → World → Prop) (K : Bool → World → Prop) : Prop :=
  (Fc Try.prog 6 #[code0] w (.one .bool) fun (x61_2 : Bool) w_1 => ((x61_2 = true → K true w_1) ∧ (x61_2 = false → (Fc Try.prog 7 #[code0] w_1 (.three (.int .i64) .any (.int .i64)) fun (x64_4 : Int × Value × Int) w_3 => (Fc Try.prog 8 #[(.int .i64 x64_4.1), x64_4.2.1, (.int .i64 x64_4.2.2)] w_3 (.two .any (.int .i64)) fun (x72_6 : Value × Int) w_5 => (Fc Try.prog 9 #[(.int .i64 x64_4.1), x64_4.2.1, (.int .i64 x64_4.2.2)] w_5 (.two .any (.int .i64)) fun (x79_8 : Value × Int) w_7 => (Fc Try.prog 10 #[(.int .i64 x64_4.1), x64_4.2.1, (.int .i64 x64_4.2.2)] w_7 (.two .bool (.int .i64)) fun (x86_10 : Bool × Int) w_9 => (Fc Try.prog 11 #[(.int .i64 x64_4.1), x64_4.2.1, (.int .i64 x64_4.2.2)] w_9 (.two .bool (.int .i64)) fun (x93_12 : Bool × Int) w_11 => (Fc Try.prog 12 #[(.int .i64 x64_4.1), x64_4.2.1, (.int .i64 x64_4.2.2)] w_11 (.two (.int .i64) (.int .i64)) fun (x100_14 : Int × Int) w_13 => (Fc Try.prog 13 #[(.int .i64 x64_4.1), x64_4.2.1, (.int .i64 x64_4.2.2)] w_13 (.two (.int .i64) (.int .i64)) fun (x107_16 : Int × Int) w_15 => (Fc Try.prog 14 #[(.int .i64 x64_4.1), x64_4.2.1, (.int .i64 x64_4.2.2)] w_15 (.two .any (.int .i64)) fun (x114_18 : Value × Int) w_17 => (Fc Try.prog 15 #[(.int .i64 x64_4.1), x64_4.2.1, (.int .i64 x64_4.2.2)] w_17 (.two .any (.int .i64)) fun (x121_20 : Value × Int) w_19 => (((x72_6.2 != x79_8.2) = true → K false w_19) ∧ ((x72_6.2 != x79_8.2) = false → (Fc Try.prog 16 #[x72_6.1, x79_8.1] w_19 (.one .bool) fun (x130_22 : Bool) w_21 => (((!x130_22) = true → K false w_21) ∧ ((!x130_22) = false → (((x86_10.2 != x93_12.2) = true → K false w_21) ∧ ((x86_10.2 != x93_12.2) = false → (QAll Try.prog (do eqGuard .neq 4 (.tmp 139) (.tmp 140) (.bool x86_10.1) (.bool x93_12.1); binOp .neq 4 (.bool x86_10.1) (.bool x93_12.1)) .bool fun (x141_23 : Bool) => ((x141_23 = true → K false w_21) ∧ (x141_23 = false → (((x100_14.2 != x107_16.2) = true → K false w_21) ∧ ((x100_14.2 != x107_16.2) = false → (((x100_14.1 != x107_16.1) = true → K false w_21) ∧ ((x100_14.1 != x107_16.1) = false → (((x114_18.2 != x121_20.2) = true → K false w_21) ∧ ((x114_18.2 != x121_20.2) = false → (Fc Try.prog 16 #[x114_18.1, x121_20.1] w_21 (.one .bool) fun (x161_25 : Bool) w_24 => (((!x161_25) = true → K false w_24) ∧ ((!x161_25) = false → J ((code0 : Value), x64_4.1, (x64_4.2.1 : Value), x64_4.2.2, (x72_6.1 : Value), x72_6.2, x86_10.1, x86_10.2, x100_14.1, (x114_18.1 : Value), ()) w_24)))))))))))))))))))))))))))))))

theorem eq_laws_FnSumParts_0 (code0 : Value) (w : World) (J : T_laws_FnSumParts_1 → World → Prop) (K : Bool → World → Prop) :
    WC Try.prog ty O_laws_FnSumParts_2 14 (doorW ⟨J_laws_FnSumParts_1, J⟩) (bodyOf Try.f3) (fnPost Try.prog Try.f3.results.toList (.one .bool) K) (frame0 [code0] 424) w = V_laws_FnSumParts_0 code0 w J K := by
  kernel_rfl

def V_laws_FnSumParts_1 (code0 : Value) (k3 : Int) (part4 : Value) (kind5 : Int) (fault6 : Value) (one7 : Int) (free10 : Bool) (three11 : Int) (count14 : Int) (next18 : Value) (w : World) (J : T_laws_FnSumParts_2 → World → Prop) (K : Bool → World → Prop) : Prop :=
  (((three11 == (0 : Int)) = true → (QAll Try.prog (do eqGuard .neq 4 (.tmp 166) (.tmp 168) (.bool free10) (.bool (count14 == (0 : Int))); binOp .neq 4 (.bool free10) (.bool (count14 == (0 : Int)))) .bool fun (x169_26 : Bool) => ((x169_26 = true → K false w) ∧ (x169_26 = false → (QAll Try.prog (do eqGuard .neq 4 (.tmp 171) (.tmp 173) (.bool free10) (.bool (one7 == (4 : Int))); binOp .neq 4 (.bool free10) (.bool (one7 == (4 : Int)))) .bool fun (x174_27 : Bool) => ((x174_27 = true → K false w) ∧ (x174_27 = false → (Fc Try.prog 17 #[(.int .i64 k3), part4] w (.two .any (.int .i64)) fun (x179_29 : Value × Int) w_28 => (Fc Try.prog 12 #[(.int .i64 k3), x179_29.1, (.int .i64 (2 : Int))] w_28 (.two (.int .i64) (.int .i64)) fun (x185_31 : Int × Int) w_30 => (Fc Try.prog 12 #[(.int .i64 k3), part4, (.int .i64 (2 : Int))] w_30 (.two (.int .i64) (.int .i64)) fun (x191_33 : Int × Int) w_32 => (At (loopAt Try.f3 22) (loopAt Try.f3 22) (LOOP (U := (Value × Int × Value × Int × Value × Int × Value × Int × Int × Int × Int × Int)) (S := (Int × Int)) ((code0 : Value), k3, (part4 : Value), kind5, (fault6 : Value), one7, (next18 : Value), x179_29.2, x185_31.1, x185_31.2, x191_33.1, x191_33.2) (fun N_44 s_45 w_46 => B_laws_FnSumParts_22 (code0 : Value) k3 (part4 : Value) kind5 (fault6 : Value) one7 (next18 : Value) x179_29.2 x185_31.1 x185_31.2 x191_33.1 x191_33.2 s_45.1 s_45.2 N_44 (fun (v_37 : (Value × Int × Value × Int × Value × Int × Value × Int × Int × Int × Int × Int × Int × Unit)) w_38 => ∀ _j_39 : Nat → Value, (((v_37.2.2.2.2.2.2.2.1 != (0 : Int)) = true → K false w_38) ∧ ((v_37.2.2.2.2.2.2.2.1 != (0 : Int)) = false → (((v_37.2.2.2.2.2.2.2.2.2.1 != (0 : Int)) = true → K false w_38) ∧ ((v_37.2.2.2.2.2.2.2.2.2.1 != (0 : Int)) = false → (((v_37.2.2.2.2.2.2.2.2.2.2.2.1 != (0 : Int)) = true → K false w_38) ∧ ((v_37.2.2.2.2.2.2.2.2.2.2.2.1 != (0 : Int)) = false → (((v_37.2.2.2.2.2.2.2.2.1 != v_37.2.2.2.2.2.2.2.2.2.2.1) = true → K false w_38) ∧ ((v_37.2.2.2.2.2.2.2.2.1 != v_37.2.2.2.2.2.2.2.2.2.2.1) = false → (QAll Try.prog (Builtin.len_ #[24] 3 #[v_37.2.2.1]) (.int .i64) fun (x230_40 : Int) => (((v_37.2.2.2.2.2.2.2.2.2.2.2.2.1 != x230_40) = true → K false w_38) ∧ ((v_37.2.2.2.2.2.2.2.2.2.2.2.2.1 != x230_40) = false → J ((v_37.1 : Value), v_37.2.1, (v_37.2.2.1 : Value), v_37.2.2.2.1, (v_37.2.2.2.2.1 : Value), v_37.2.2.2.2.2.1, (v_37.2.2.2.2.2.2.1 : Value), ()) w_38)))))))))))) (fun (v_41 : (Bool × Unit)) w_42 => ∀ _j_43 : Nat → Value, K v_41.1 w_42) w_46) ((0 : Int), (0 : Int)) w_32)))))))))))) ∧ ((three11 == (0 : Int)) = false → J ((code0 : Value), k3, (part4 : Value), kind5, (fault6 : Value), one7, (next18 : Value), ()) w))

theorem eq_laws_FnSumParts_1 (j : Nat → Value) (code0 : Value) (k3 : Int) (part4 : Value) (kind5 : Int) (fault6 : Value) (one7 : Int) (free10 : Bool) (three11 : Int) (count14 : Int) (next18 : Value) (w : World) (J : T_laws_FnSumParts_2 → World → Prop) (K : Bool → World → Prop) :
    WC Try.prog ty O_laws_FnSumParts_2 30 (doorW ⟨J_laws_FnSumParts_2, J⟩) (restOf 14 (bodyOf Try.f3)) (fnPost Try.prog Try.f3.results.toList (.one .bool) K) (mkT j 0 J_laws_FnSumParts_1 (code0, k3, part4, kind5, fault6, one7, free10, three11, count14, next18, ())) w = V_laws_FnSumParts_1 code0 k3 part4 kind5 fault6 one7 free10 three11 count14 next18 w J K := by
  kernel_rfl

def V_laws_FnSumParts_2 (code0 : Value) (k3 : Int) (part4 : Value) (kind5 : Int) (fault6 : Value) (one7 : Int) (next18 : Value) (w : World) (J : T_laws_FnSumParts_3 → World → Prop) (K : Bool → World → Prop) : Prop :=
  (At (loopAt Try.f3 31) (loopAt Try.f3 31) (LOOP (U := (Value × Int × Value × Int × Value × Int × Value)) (S := Int) ((code0 : Value), k3, (part4 : Value), kind5, (fault6 : Value), one7, (next18 : Value)) (fun N_85 s_86 w_87 => B_laws_FnSumParts_31 (code0 : Value) k3 (part4 : Value) kind5 (fault6 : Value) one7 (next18 : Value) s_86 N_85 (fun (v_79 : (Value × Value × Int × Value × Int × Unit)) w_80 => ∀ _j_81 : Nat → Value, J ((v_79.1 : Value), (v_79.2.1 : Value), v_79.2.2.1, (v_79.2.2.2.1 : Value), v_79.2.2.2.2.1, ()) w_80) (fun (v_82 : (Bool × Unit)) w_83 => ∀ _j_84 : Nat → Value, K v_82.1 w_83) w_87) (0 : Int) w))

theorem eq_laws_FnSumParts_2 (j : Nat → Value) (code0 : Value) (k3 : Int) (part4 : Value) (kind5 : Int) (fault6 : Value) (one7 : Int) (next18 : Value) (w : World) (J : T_laws_FnSumParts_3 → World → Prop) (K : Bool → World → Prop) :
    WC Try.prog ty O_laws_FnSumParts_2 36 (doorW ⟨J_laws_FnSumParts_3, J⟩) (restOf 30 (restOf 14 (bodyOf Try.f3))) (fnPost Try.prog Try.f3.results.toList (.one .bool) K) (mkT j 0 J_laws_FnSumParts_2 (code0, k3, part4, kind5, fault6, one7, next18, ())) w = V_laws_FnSumParts_2 code0 k3 part4 kind5 fault6 one7 next18 w J K := by
  kernel_rfl

def V_laws_FnSumParts_3 (code0 : Value) (part4 : Value) (kind5 : Int) (fault6 : Value) (one7 : Int) (w : World) (J : T_laws_FnSumParts_4 → World → Prop) (K : Bool → World → Prop) : Prop :=
  (((one7 == (0 : Int)) = true → (∀ w_88, Drew w w_88 → (QAll Try.prog (Instr.indexAt 24 fault6 (.int .i64 (0 : Int))) .any fun (x263_89 : Value) => (QSub Try.prog (Instr.loadAt 2 x263_89) w_88 (.int .i64) fun (x264_90 : Int) => (QAll Try.prog (Instr.indexAt 24 fault6 (.int .i64 (1 : Int))) .any fun (x266_91 : Value) => (QSub Try.prog (Instr.loadAt 2 x266_91) w_88 (.int .i64) fun (x267_92 : Int) => (QAll Try.prog (Instr.indexAt 24 fault6 (.int .i64 (2 : Int))) .any fun (x269_93 : Value) => (QSub Try.prog (Instr.loadAt 2 x269_93) w_88 (.int .i64) fun (x270_94 : Int) => (∀ w_95, Drew w_88 w_95 → (QAll Try.prog (Instr.indexAt 24 part4 (.int .i64 (IntKind.i64.wrap (x264_90 - (1 : Int))))) .any fun (x274_96 : Value) => (QSub Try.prog (Instr.loadAt 2 x274_96) w_95 (.int .i64) fun (x275_97 : Int) => (QAll Try.prog (Instr.indexAt 24 part4 (.int .i64 (IntKind.i64.wrap (x267_92 - (1 : Int))))) .any fun (x279_98 : Value) => (QSub Try.prog (Instr.loadAt 2 x279_98) w_95 (.int .i64) fun (x280_99 : Int) => (((x275_97 != x280_99) = true → K false w_95) ∧ ((x275_97 != x280_99) = false → (QAll Try.prog (Instr.indexAt 24 part4 (.int .i64 (IntKind.i64.wrap (x267_92 - (1 : Int))))) .any fun (x286_100 : Value) => (QSub Try.prog (Instr.loadAt 2 x286_100) w_95 (.int .i64) fun (x287_101 : Int) => (QAll Try.prog (Instr.indexAt 24 part4 (.int .i64 (IntKind.i64.wrap (x270_94 - (1 : Int))))) .any fun (x291_102 : Value) => (QSub Try.prog (Instr.loadAt 2 x291_102) w_95 (.int .i64) fun (x292_103 : Int) => (((x287_101 != x292_103) = true → K false w_95) ∧ ((x287_101 != x292_103) = false → (((decide (kind5 < (2 : Int))) = true → ((((IntKind.i64.wrap (x264_90 + x267_92)) != x270_94) = true → K false w_95) ∧ (((IntKind.i64.wrap (x264_90 + x267_92)) != x270_94) = false → (((kind5 == (2 : Int)) = true → ((((IntKind.i64.wrap (x270_94 - x267_92)) != (IntKind.i64.wrap (x267_92 - x264_90))) = true → K false w_95) ∧ (((IntKind.i64.wrap (x270_94 - x267_92)) != (IntKind.i64.wrap (x267_92 - x264_90))) = false → J ((code0 : Value), ()) w_95))) ∧ ((kind5 == (2 : Int)) = false → J ((code0 : Value), ()) w_95))))) ∧ ((decide (kind5 < (2 : Int))) = false → (((kind5 == (2 : Int)) = true → ((((IntKind.i64.wrap (x270_94 - x267_92)) != (IntKind.i64.wrap (x267_92 - x264_90))) = true → K false w_95) ∧ (((IntKind.i64.wrap (x270_94 - x267_92)) != (IntKind.i64.wrap (x267_92 - x264_90))) = false → J ((code0 : Value), ()) w_95))) ∧ ((kind5 == (2 : Int)) = false → J ((code0 : Value), ()) w_95))))))))))))))))))))))))) ∧ ((one7 == (0 : Int)) = false → J ((code0 : Value), ()) w))

theorem eq_laws_FnSumParts_3 (j : Nat → Value) (code0 : Value) (part4 : Value) (kind5 : Int) (fault6 : Value) (one7 : Int) (w : World) (J : T_laws_FnSumParts_4 → World → Prop) (K : Bool → World → Prop) :
    WC Try.prog ty O_laws_FnSumParts_2 40 (doorW ⟨J_laws_FnSumParts_4, J⟩) (restOf 36 (restOf 30 (restOf 14 (bodyOf Try.f3)))) (fnPost Try.prog Try.f3.results.toList (.one .bool) K) (mkT j 0 J_laws_FnSumParts_3 (code0, part4, kind5, fault6, one7, ())) w = V_laws_FnSumParts_3 code0 part4 kind5 fault6 one7 w J K := by
  kernel_rfl

def V_laws_FnSumParts_4 (code0 : Value) (w : World) (J : T_laws_FnSumParts_5 → World → Prop) (K : Bool → World → Prop) : Prop :=
  (Fc Try.prog 19 #[code0] w (.three (.int .i64) (.int .i64) (.int .i64)) fun (x321_105 : Int × Int × Int) w_104 => (Fc Try.prog 20 #[(.int .i64 x321_105.1), (.int .i64 x321_105.2.1), (.int .i64 x321_105.2.2)] w_104 (.two .any (.int .i64)) fun (x329_107 : Value × Int) w_106 => (Fc Try.prog 21 #[(.int .i64 x321_105.1), (.int .i64 x321_105.2.1), (.int .i64 x321_105.2.2)] w_106 (.two .any (.int .i64)) fun (x336_109 : Value × Int) w_108 => (((x329_107.2 != x336_109.2) = true → K false w_108) ∧ ((x329_107.2 != x336_109.2) = false → (Fc Try.prog 16 #[x329_107.1, x336_109.1] w_108 (.one .bool) fun (x345_111 : Bool) w_110 => (((!x345_111) = true → K false w_110) ∧ ((!x345_111) = false → (((x329_107.2 == (0 : Int)) = true → (Fc Try.prog 10 #[(.int .i64 x321_105.2.1), x329_107.1, (.int .i64 x321_105.2.2)] w_110 (.two .bool (.int .i64)) fun (x354_113 : Bool × Int) w_112 => (((x354_113.2 != (0 : Int)) = true → K false w_112) ∧ ((x354_113.2 != (0 : Int)) = false → (((!x354_113.1) = true → K false w_112) ∧ ((!x354_113.1) = false → (QAll Try.prog (Builtin.len_ #[24] 3 #[x329_107.1]) (.int .i64) fun (x365_114 : Int) => (((x365_114 != x321_105.1) = true → K false w_112) ∧ ((x365_114 != x321_105.1) = false → J ((code0 : Value), ()) w_112))))))))) ∧ ((x329_107.2 == (0 : Int)) = false → J ((code0 : Value), ()) w_110))))))))))

theorem eq_laws_FnSumParts_4 (j : Nat → Value) (code0 : Value) (w : World) (J : T_laws_FnSumParts_5 → World → Prop) (K : Bool → World → Prop) :
    WC Try.prog ty O_laws_FnSumParts_2 49 (doorW ⟨J_laws_FnSumParts_5, J⟩) (restOf 40 (restOf 36 (restOf 30 (restOf 14 (bodyOf Try.f3))))) (fnPost Try.prog Try.f3.results.toList (.one .bool) K) (mkT j 0 J_laws_FnSumParts_4 (code0, ())) w = V_laws_FnSumParts_4 code0 w J K := by
  kernel_rfl

def V_laws_FnSumParts_5 (code0 : Value) (w : World) (K : Bool → World → Prop) : Prop :=
  (Fc Try.prog 22 #[code0] w (.three (.int .i64) (.int .i64) (.int .i64)) fun (x371_116 : Int × Int × Int) w_115 => (Fc Try.prog 23 #[(.int .i64 x371_116.1), (.int .i64 x371_116.2.1), (.int .i64 x371_116.2.2)] w_115 (.two (.int .i64) (.int .i64)) fun (x379_118 : Int × Int) w_117 => (Fc Try.prog 24 #[(.int .i64 x371_116.1), (.int .i64 x371_116.2.1), (.int .i64 x371_116.2.2)] w_117 (.two (.int .i64) (.int .i64)) fun (x386_120 : Int × Int) w_119 => (Fc Try.prog 25 #[code0] w_119 (.two (.int .i64) (.int .i64)) fun (x391_122 : Int × Int) w_121 => (Fc Try.prog 26 #[(.int .i64 x391_122.1), (.int .i64 x391_122.2)] w_121 (.two (.int .i64) (.int .i64)) fun (x397_124 : Int × Int) w_123 => (Fc Try.prog 27 #[(.int .i64 x391_122.1), (.int .i64 x391_122.2)] w_123 (.two (.int .i64) (.int .i64)) fun (x403_126 : Int × Int) w_125 => (((x379_118.2 == x386_120.2) = true → (((x379_118.1 == x386_120.1) = true → (((x397_124.2 == x403_126.2) = true → K (x397_124.1 == x403_126.1) w_125) ∧ ((x397_124.2 == x403_126.2) = false → K false w_125))) ∧ ((x379_118.1 == x386_120.1) = false → K false w_125))) ∧ ((x379_118.2 == x386_120.2) = false → K false w_125))))))))

theorem eq_laws_FnSumParts_5 (j : Nat → Value) (code0 : Value) (w : World) (K : Bool → World → Prop) :
    W Try.prog ty O_laws_FnSumParts_2 (restOf 49 (restOf 40 (restOf 36 (restOf 30 (restOf 14 (bodyOf Try.f3)))))) (fnPost Try.prog Try.f3.results.toList (.one .bool) K) (mkT j 0 J_laws_FnSumParts_5 (code0, ())) w = V_laws_FnSumParts_5 code0 w K := by
  kernel_rfl

def Q_laws_FnSumParts_5 (K : Bool → World → Prop) : T_laws_FnSumParts_5 → World → Prop := fun v w => V_laws_FnSumParts_5 v.1 w K
theorem ok_laws_FnSumParts_5 (j : Nat → Value) (v : T_laws_FnSumParts_5) {w : World} {K : Bool → World → Prop} (h : Q_laws_FnSumParts_5 K v w) : Code.wp Try.prog (restOf 49 (restOf 40 (restOf 36 (restOf 30 (restOf 14 (bodyOf Try.f3)))))) (up (fnPost Try.prog Try.f3.results.toList (.one .bool) K)) (act (mkT j 0 J_laws_FnSumParts_5 v)) w :=
  W_ok follows O_laws_FnSumParts_2_ok _ _ _ _ (Eq.mpr (eq_laws_FnSumParts_5 j v.1 w K) h)

def Q_laws_FnSumParts_4 (K : Bool → World → Prop) : T_laws_FnSumParts_4 → World → Prop := fun v w => V_laws_FnSumParts_4 v.1 w (Q_laws_FnSumParts_5 K) K
theorem ok_laws_FnSumParts_4 (j : Nat → Value) (v : T_laws_FnSumParts_4) {w : World} {K : Bool → World → Prop} (h : Q_laws_FnSumParts_4 K v w) : Code.wp Try.prog (restOf 40 (restOf 36 (restOf 30 (restOf 14 (bodyOf Try.f3))))) (up (fnPost Try.prog Try.f3.results.toList (.one .bool) K)) (act (mkT j 0 J_laws_FnSumParts_4 v)) w :=
  WC_ok (J := doorW ⟨J_laws_FnSumParts_5, Q_laws_FnSumParts_5 K⟩) follows O_laws_FnSumParts_2_ok _ _ _ (fun fr w hd => cut_ok (sp := J_laws_FnSumParts_5) (D := Q_laws_FnSumParts_5 K) hd fun j v h => ok_laws_FnSumParts_5 j v h) (Eq.mpr (eq_laws_FnSumParts_4 j v.1 w (Q_laws_FnSumParts_5 K) K) h)

def Q_laws_FnSumParts_3 (K : Bool → World → Prop) : T_laws_FnSumParts_3 → World → Prop := fun v w => V_laws_FnSumParts_3 v.1 v.2.1 v.2.2.1 v.2.2.2.1 v.2.2.2.2.1 w (Q_laws_FnSumParts_4 K) K
theorem ok_laws_FnSumParts_3 (j : Nat → Value) (v : T_laws_FnSumParts_3) {w : World} {K : Bool → World → Prop} (h : Q_laws_FnSumParts_3 K v w) : Code.wp Try.prog (restOf 36 (restOf 30 (restOf 14 (bodyOf Try.f3)))) (up (fnPost Try.prog Try.f3.results.toList (.one .bool) K)) (act (mkT j 0 J_laws_FnSumParts_3 v)) w :=
  WC_ok (J := doorW ⟨J_laws_FnSumParts_4, Q_laws_FnSumParts_4 K⟩) follows O_laws_FnSumParts_2_ok _ _ _ (fun fr w hd => cut_ok (sp := J_laws_FnSumParts_4) (D := Q_laws_FnSumParts_4 K) hd fun j v h => ok_laws_FnSumParts_4 j v h) (Eq.mpr (eq_laws_FnSumParts_3 j v.1 v.2.1 v.2.2.1 v.2.2.2.1 v.2.2.2.2.1 w (Q_laws_FnSumParts_4 K) K) h)

def Q_laws_FnSumParts_2 (K : Bool → World → Prop) : T_laws_FnSumParts_2 → World → Prop := fun v w => V_laws_FnSumParts_2 v.1 v.2.1 v.2.2.1 v.2.2.2.1 v.2.2.2.2.1 v.2.2.2.2.2.1 v.2.2.2.2.2.2.1 w (Q_laws_FnSumParts_3 K) K
theorem ok_laws_FnSumParts_2 (j : Nat → Value) (v : T_laws_FnSumParts_2) {w : World} {K : Bool → World → Prop} (h : Q_laws_FnSumParts_2 K v w) : Code.wp Try.prog (restOf 30 (restOf 14 (bodyOf Try.f3))) (up (fnPost Try.prog Try.f3.results.toList (.one .bool) K)) (act (mkT j 0 J_laws_FnSumParts_2 v)) w :=
  WC_ok (J := doorW ⟨J_laws_FnSumParts_3, Q_laws_FnSumParts_3 K⟩) follows O_laws_FnSumParts_2_ok _ _ _ (fun fr w hd => cut_ok (sp := J_laws_FnSumParts_3) (D := Q_laws_FnSumParts_3 K) hd fun j v h => ok_laws_FnSumParts_3 j v h) (Eq.mpr (eq_laws_FnSumParts_2 j v.1 v.2.1 v.2.2.1 v.2.2.2.1 v.2.2.2.2.1 v.2.2.2.2.2.1 v.2.2.2.2.2.2.1 w (Q_laws_FnSumParts_3 K) K) h)

def Q_laws_FnSumParts_1 (K : Bool → World → Prop) : T_laws_FnSumParts_1 → World → Prop := fun v w => V_laws_FnSumParts_1 v.1 v.2.1 v.2.2.1 v.2.2.2.1 v.2.2.2.2.1 v.2.2.2.2.2.1 v.2.2.2.2.2.2.1 v.2.2.2.2.2.2.2.1 v.2.2.2.2.2.2.2.2.1 v.2.2.2.2.2.2.2.2.2.1 w (Q_laws_FnSumParts_2 K) K
theorem ok_laws_FnSumParts_1 (j : Nat → Value) (v : T_laws_FnSumParts_1) {w : World} {K : Bool → World → Prop} (h : Q_laws_FnSumParts_1 K v w) : Code.wp Try.prog (restOf 14 (bodyOf Try.f3)) (up (fnPost Try.prog Try.f3.results.toList (.one .bool) K)) (act (mkT j 0 J_laws_FnSumParts_1 v)) w :=
  WC_ok (J := doorW ⟨J_laws_FnSumParts_2, Q_laws_FnSumParts_2 K⟩) follows O_laws_FnSumParts_2_ok _ _ _ (fun fr w hd => cut_ok (sp := J_laws_FnSumParts_2) (D := Q_laws_FnSumParts_2 K) hd fun j v h => ok_laws_FnSumParts_2 j v h) (Eq.mpr (eq_laws_FnSumParts_1 j v.1 v.2.1 v.2.2.1 v.2.2.2.1 v.2.2.2.2.1 v.2.2.2.2.2.1 v.2.2.2.2.2.2.1 v.2.2.2.2.2.2.2.1 v.2.2.2.2.2.2.2.2.1 v.2.2.2.2.2.2.2.2.2.1 w (Q_laws_FnSumParts_2 K) K) h)

theorem body_laws_FnSumParts : Try.f3.body = some (bodyOf Try.f3) := by kernel_rfl
theorem name_laws_FnSumParts : (Try.f3.name == "runtime.NumGoroutine") = false := by kernel_rfl

theorem walk_laws_FnSumParts (code0 : Value) {w : World} {K : Bool → World → Prop} (h : V_laws_FnSumParts_0 code0 w (Q_laws_FnSumParts_1 K) K) : Fc Try.prog 3 #[code0] w (.one .bool) K :=
  fn_wp Try.func3 name_laws_FnSumParts body_laws_FnSumParts Try.ntmps3 [code0] (WC_ok (J := doorW ⟨J_laws_FnSumParts_1, Q_laws_FnSumParts_1 K⟩) follows O_laws_FnSumParts_2_ok _ _ _ (fun fr w hd => cut_ok (sp := J_laws_FnSumParts_1) (D := Q_laws_FnSumParts_1 K) hd fun j v h => ok_laws_FnSumParts_1 j v h) (Eq.mpr (eq_laws_FnSumParts_0 code0 w (Q_laws_FnSumParts_1 K) K) h))

-- uses S1Cut
-- uses S9Sum
-- cuts 14 30 36 40 49
section
variable {code : Value} {l : List Int} {w0 : World} {K : Bool → World → Prop}
theorem sum5 (h : ArgB w0 code l) (hl : l.length ≤ 4096) (hK : ∀ w', Below w0.heap.size w0 w' → K true w') {w : World} (q : Below w0.heap.size w0 w) : V_laws_FnSumParts_5 code w K := by
  unfold V_laws_FnSumParts_5
  refine c_spec_DrawCountFree (h.keep q) hl fun w1 a b c q1 ha hb hc => c_impl_CountFree ha hb hc fun w2 q2 => c_spec_CountFree ha hb hc fun w3 q3 => ?_
  have p3 := bt (bt (bt q q1) q2) q3
  refine c_spec_DrawGreatestFree (h.keep p3) hl fun w4 d e q4 hd he => c_impl_GreatestFree hd he fun w5 q5 => c_spec_GreatestFree hd he fun w6 q6 => ?_
  have p6 := bt (bt (bt p3 q4) q5) q6
  refine ⟨fun _ => ⟨fun _ => ⟨fun _ => ?_, fun e => absurd rfl (eq_f e)⟩, fun e => absurd rfl (eq_f e)⟩, fun e => absurd rfl (eq_f e)⟩
  have e : ((greatF d e).1 == (greatF d e).1) = true := by simp
  exact e ▸ hK w6 p6
theorem sum4 (h : ArgB w0 code l) (hl : l.length ≤ 4096) {J : T_laws_FnSumParts_5 → World → Prop} (hJ : ∀ w', Below w0.heap.size w0 w' → J (code, ()) w') {w : World} (q : Below w0.heap.size w0 w) : V_laws_FnSumParts_4 code w J K := by
  unfold V_laws_FnSumParts_4
  refine c_spec_DrawFirstFree (h.keep q) hl fun w1 n k kind q1 hn hk hd => c_impl_FirstFree hn hk hd fun w2 v2 q2 f2 => c_spec_FirstFree hn hk hd fun w3 v3 q3 f3 => ?_
  have p3 := bt (bt (bt q q1) q2) q3
  refine ⟨fun e => absurd rfl (ne_t e), fun _ => c_laws_likeInts (f2.sl.keep q3) f3.sl f2.len fun w4 q4 => ⟨fun e => (by cases e), fun _ => ⟨fun h0 => ?_, fun _ => hJ w4 (bt p3 q4)⟩⟩⟩
  have ok := firstFree_ok (eq_t h0)
  have s4 := (f2.sl.keep q3).keep q4
  refine c_impl_IsFree hk ⟨s4, by omega, ok.2.2.2⟩ hd fun w5 q5 => ?_
  rw [ok.1]
  refine ⟨fun e => absurd rfl (ne_t e), fun _ => ⟨fun e => (by cases e), fun _ => lenI (s4.keep q5) ⟨fun e => absurd ok.2.1 (ne_t e), fun _ => hJ w5 (bt (bt p3 q4) q5)⟩⟩⟩
theorem sum3 {k kind : Int} {pv fv : Value} {p : List Int} {J : T_laws_FnSumParts_4 → World → Prop} (hJ : ∀ w', Below w0.heap.size w0 w' → J (code, ()) w') {w : World} (q : Below w0.heap.size w0 w) (hp : SlI w pv p) (hf : SlI w fv (firstF k p kind).1) (hi : InI p) :
    V_laws_FnSumParts_3 code pv kind fv (firstF k p kind).2 w J K := by
  unfold V_laws_FnSumParts_3
  refine ⟨fun h0 w1 hd => ?_, fun _ => hJ w q⟩
  obtain ⟨x, y, z, e, x1, xy, yz, zl, pl, exy, eyz, d0, d1, ex⟩ := fault_ok (eq_t h0)
  rw [e] at hf
  have q1 := hd.below w.heap.size
  have f1 := hf.keep q1
  refine at0 f1 (at1 f1 (at2 f1 fun w2 hd2 => ?_))
  have q2 := hd2.below w1.heap.size
  have p2 := (hp.keep q1).keep q2
  have r2 := bt (bt q q1) q2
  rw [wrap_small (n := x - 1) (by omega) (by omega), wrap_small (n := y - 1) (by omega) (by omega), wrap_small (n := z - 1) (by omega) (by omega), wrap_small (n := x + y) (by omega) (by omega), wrap_small (n := z - y) (by omega) (by omega), wrap_small (n := y - x) (by omega) (by omega)]
  refine atI p2 (by omega) (by omega) (atI p2 (by omega) (by omega) ⟨fun e => absurd exy (ne_t e), fun _ => atI p2 (by omega) (by omega) (atI p2 (by omega) (by omega) ⟨fun e => absurd eyz (ne_t e), fun _ => ?_⟩)⟩)
  have last : ((kind == 2) = true → (((z - y) != (y - x)) = true → K false w2) ∧ (((z - y) != (y - x)) = false → J (code, ()) w2)) ∧ ((kind == 2) = false → J (code, ()) w2) := by
    refine ⟨fun h2 => ⟨fun e => absurd ?_ (ne_t e), fun _ => hJ w2 r2⟩, fun _ => hJ w2 r2⟩
    have h2 := eq_t h2
    unfold xF at ex
    rw [if_pos h2] at ex
    omega
  refine ⟨fun h2 => ⟨fun e => absurd ?_ (ne_t e), fun _ => last⟩, fun _ => last⟩
  have h2 := dec_t h2
  unfold xF at ex
  rw [if_neg (by omega)] at ex
  omega
theorem sum2 {k kind one : Int} {pv fv nv : Value} {p : List Int} {w : World} {J : T_laws_FnSumParts_3 → World → Prop} (hk : I64 k) (hd : I64 kind) (hJ : ∀ w', Below w.heap.size w w' → J (code, pv, kind, fv, one, ()) w') (q : Below w0.heap.size w0 w) (hp : SlI w pv p) (hn : SlI w nv (nextOf k p kind).1) (hnl : (nextOf k p kind).1.length ≤ 1000) (hi : InI p) :
    V_laws_FnSumParts_2 code k pv kind fv one nv w J K := by
  unfold V_laws_FnSumParts_2
  refine lp (fun i w' => 0 ≤ i ∧ i ≤ (nextOf k p kind).1.length ∧ Below w.heap.size w w') (fun i _ => (((nextOf k p kind).1.length : Int) - i).toNat) ⟨by omega, by omega, Below.refl _ _⟩ ?_
  rintro i w1 N ⟨i0, i1, q1⟩ hN
  unfold B_laws_FnSumParts_31
  refine lenI (hn.keep q1) ⟨fun h w2 hdr => ?_, fun _ _ => hJ w1 q1⟩
  have h := dec_t h
  have q2 := q1.trans ((hdr.below w1.heap.size).mono q1.size)
  have z2 := q2.size
  refine atI (hn.keep q2) i0 h ?_
  have hx : (nextOf k p kind).1.getD i.toNat 0 ∈ (nextOf k p kind).1 := by
    have hlt : i.toNat < (nextOf k p kind).1.length := by omega
    rw [List.getD_eq_getElem?_getD, List.getElem?_eq_getElem hlt]
    exact List.getElem_mem hlt
  generalize (nextOf k p kind).1.getD i.toNat 0 = x at hx ⊢
  obtain ⟨ok, pl, ins⟩ := next_ok hx
  have fin : ∀ {w' : World} {b : Nat} {v : Value} (R : World → Prop), Below w.heap.size w w' → OwnI w' b v (p ++ [x]) → Fc Try.prog F_impl_IsFree #[.int .i64 k, v, .int .i64 kind] w' (.two .bool (.int .i64)) fun y w'' =>
      ((y.2 != 0) = true → R w'') ∧ ((y.2 != 0) = false → ((!y.1) = true → R w'') ∧ ((!y.1) = false → N (code, k, pv, kind, fv, one, nv) (IntKind.i64.wrap (i + 1)) w'')) := by
    intro w' b v R q' o
    refine c_impl_IsFree hk ⟨own_slI o (by simp; omega), by simp; omega, ins⟩ hd fun w'' q'' => ?_
    rw [ok]
    refine ⟨fun e => absurd rfl (ne_t e), fun _ => ⟨fun e => (by cases e), fun _ => ?_⟩⟩
    rw [wrap_small (by omega) (by omega)]
    exact hN _ _ ⟨by omega, by omega, bt q' q''⟩ (by omega)
  have hp2 := hp.keep q2
  constructor
  · refine nilI fun b v w3 hb q3 o3 => ⟨q3, ?_⟩
    have z3 := q3.size
    have lt3 := o3.lt
    constructor
    · refine appsI o3 (hp2.keep q3) (by simp; omega) fun v4 w4 b4 o4 m4 h4 => ⟨q3.trans (m4.below (by omega) (by simp; omega)), ?_⟩
      have z4 := m4.size
      refine appI o4 (by simp; omega) fun v5 w5 b5 o5 m5 h5 => ?_
      exact fin _ (q2.trans ((q3.trans ((m4.below (by omega) (by simp; omega)).trans (m5.below (by omega) (by simp; omega)))).mono z2)) (by simpa using o5)
    · refine mk1 ySI rfl fun b4 w4 n4 (o4 : OwnI w4 b4 _ [x]) => ?_
      have z4 := n4.size; have e4 := n4.here
      refine appsI (o3.keep n4.below) ((hp2.keep q3).keep n4.below) (by simp; omega) fun v5 w5 b5 o5 m5 h5 => ?_
      have z5 := m5.size
      refine appsI o5 (own_slI (o4.mod m5 (by simp; omega)) (by simp)) (by simp; omega) fun v6 w6 b6 o6 m6 h6 => ?_
      exact fin _ (q2.trans ((q3.trans ((n4.below.mono z3).trans ((m5.below (by omega) (by simp; omega)).trans (m6.below (by omega) (by simp; omega))))).mono z2)) (by simpa using o6)
  · refine mk1 ySI rfl fun b3 w3 n3 (o3 : OwnI w3 b3 _ [x]) => ?_
    have z3 := n3.size; have e3 := n3.here
    refine nilI fun b4 v4 w4 hb4 q4 o4 => ?_
    have z4 := q4.size; have lt4 := o4.lt
    refine appsI o4 ((hp2.keep n3.below).keep q4) (by simp; omega) fun v5 w5 b5 o5 m5 h5 => ?_
    have z5 := m5.size
    refine appsI o5 (own_slI ((o3.keep q4).mod m5 (by simp; omega)) (by simp)) (by simp; omega) fun v6 w6 b6 o6 m6 h6 => ?_
    exact fin _ (q2.trans ((n3.below.trans ((q4.mono (by omega)).trans ((m5.below (by omega) (by simp; omega)).trans (m6.below (by omega) (by simp; omega))))).mono z2)) (by simpa using o6)
theorem sum1 {k kind : Int} {pv fv nv : Value} {p : List Int} {w : World} {J : T_laws_FnSumParts_2 → World → Prop} (hk : I64 k) (hd : I64 kind) (hJ : ∀ w', Below w.heap.size w w' → J (code, k, pv, kind, fv, (firstF k p kind).2, nv, ()) w') (q : Below w0.heap.size w0 w) (hp : SlI w pv p) (hpl : p.length ≤ 41) (hi : InI p) :
    V_laws_FnSumParts_1 code k pv kind fv (firstF k p kind).2 (freeF k p kind).1 (freeF k p kind).2 (cntF k p kind).1 nv w J K := by
  unfold V_laws_FnSumParts_1
  refine ⟨fun h0 => ?_, fun _ => hJ w (Below.refl _ _)⟩
  have h0 := eq_t h0
  obtain ⟨hpart, d0, d1⟩ := freeF_part h0
  obtain ⟨c1, c2⟩ := free_cnt h0
  rw [c1]
  refine neqB Try.underlying4 ⟨fun e => (by simp at e), fun _ => ?_⟩
  rw [← c1, c2]
  refine neqB Try.underlying4 ⟨fun e => (by simp at e), fun _ => ?_⟩
  obtain ⟨r1, r2, r3, r4, r5⟩ := refl_ok hpart
  refine c_impl_ReflectPart hk ⟨hp, by omega, hi⟩ fun w1 v1 q1 f1 => ?_
  rw [r1] at f1 ⊢
  have f1' := f1.sl
  refine c_impl_CountFaults hk ⟨f1', by rw [List.length_reverse]; omega, r2⟩ (by omega) fun w2 q2 => c_impl_CountFaults hk ⟨(hp.keep q1).keep q2, by omega, hi⟩ (by omega) fun w3 q3 => ?_
  have q13 := q1.trans ((q2.mono q1.size).trans (q3.mono (Nat.le_trans q1.size q2.size)))
  have hk1 := hpart.1; have hk3 := hpart.2.1
  refine lp (fun s w' => 0 ≤ s.2 ∧ s.2 ≤ k ∧ s.1 = totC p p.length s.2.toNat ∧ Below w.heap.size w w') (fun s _ => (k - s.2).toNat) ⟨by simp, by simp; omega, by simp [totC], q13⟩ ?_
  rintro ⟨t, c⟩ w4 N ⟨t0, t1, te, q4⟩ hN
  simp only at t0 t1 te
  unfold B_laws_FnSumParts_22
  have tl := totC_le p p.length c.toNat
  have tb : totC p p.length c.toNat ≤ 3 * 41 := Nat.le_trans tl (Nat.mul_le_mul (by omega) hpl)
  refine ⟨fun h => ?_, fun h j => ?_⟩
  · have h := dec_t h
    simp only at h
    refine c_impl_ClassOfColour hk ⟨hp.keep q4, by omega, hi⟩ (by omega) fun w5 v5 q5 f5 => ?_
    rw [class_ok hpart t0 h] at f5 ⊢
    refine ⟨fun e => absurd rfl (ne_t e), fun _ => lenI f5.sl ?_⟩
    have pl := posOf_len c p p.length
    simp only
    rw [wrap_small (n := c + 1) (by omega) (by omega), wrap_small (n := t + ((posOf c p p.length).length : Int)) (by omega) (by omega)]
    refine hN _ _ ⟨by simp only; omega, by simp only; omega, ?_, q4.trans (q5.mono q4.size)⟩ (by simp only; omega)
    simp only
    rw [show (c + 1).toNat = c.toNat + 1 from by omega, totC, te, show ((c.toNat : Nat) : Int) = c from by omega]
    simp
  · have h := dec_f h
    simp only at h
    have hc : c = (k.toNat : Nat) := by omega
    have all : totC p p.length c.toNat = p.length := by
      rw [hc, Int.toNat_natCast]
      exact totC_all (Nat.le_refl _) (by rw [show ((k.toNat : Nat) : Int) = k from by omega]; exact hpart.2.2.2)
    rw [all] at te
    refine ⟨fun e => absurd rfl (ne_t e), fun _ => ⟨fun e => absurd r3 (ne_t e), fun _ => ⟨fun e => absurd r4 (ne_t e), fun _ => ⟨fun e => absurd r5 (ne_t e), fun _ => lenI (hp.keep q4) ⟨fun e => absurd te (ne_t e), fun _ => hJ w4 q4⟩⟩⟩⟩⟩
end
theorem c_laws_FnSumParts {code : Value} {l : List Int} {w : World} {K : Bool → World → Prop} (h : ArgB w code l) (hK : ∀ w', Below w.heap.size w w' → K true w') : Fc Try.prog F_laws_FnSumParts #[code] w (.one .bool) K := by
  refine walk_laws_FnSumParts _ ?_
  unfold V_laws_FnSumParts_0
  refine c_laws_big h ⟨fun _ => hK w (Below.refl _ _), fun hl => ?_⟩
  have hl : l.length ≤ 4096 := by have := dec_f hl; omega
  refine c_spec_DrawFirstFault h hl fun w1 k pv kind p q1 hp hpl hi hk hd => ?_
  refine c_impl_FirstFault hk ⟨hp, by omega, hi⟩ hd fun w2 fv q2 f2 => ?_
  replace hp := hp.keep q2
  have p2 := bt q1 q2
  refine c_spec_FirstFault hk ⟨hp, by omega, hi⟩ hd fun w3 fv' q3 f3 => ?_
  replace hp := hp.keep q3
  have f2s := f2.sl.keep q3
  have p3 := bt p2 q3
  refine c_impl_IsFree hk ⟨hp, by omega, hi⟩ hd fun w4 q4 => ?_
  replace hp := hp.keep q4
  replace f2s := f2s.keep q4
  have f3s := f3.sl.keep q4
  have p4 := bt p3 q4
  refine c_spec_IsFree hk ⟨hp, by omega, hi⟩ hd fun w5 q5 => ?_
  replace hp := hp.keep q5
  replace f2s := f2s.keep q5
  replace f3s := f3s.keep q5
  have p5 := bt p4 q5
  refine c_impl_CountFaults hk ⟨hp, by omega, hi⟩ hd fun w6 q6 => ?_
  replace hp := hp.keep q6
  replace f2s := f2s.keep q6
  replace f3s := f3s.keep q6
  have p6 := bt p5 q6
  refine c_spec_CountFaults hk ⟨hp, by omega, hi⟩ hd fun w7 q7 => ?_
  replace hp := hp.keep q7
  replace f2s := f2s.keep q7
  replace f3s := f3s.keep q7
  have p7 := bt p6 q7
  refine c_impl_ColoursNext hk ⟨hp, by omega, hi⟩ hd fun w8 nv q8 f8 => ?_
  replace hp := hp.keep q8
  replace f2s := f2s.keep q8
  replace f3s := f3s.keep q8
  have p8 := bt p7 q8
  refine c_spec_ColoursNext hk ⟨hp, by omega, hi⟩ hd fun w9 nv' q9 f9 => ?_
  replace hp := hp.keep q9
  replace f2s := f2s.keep q9
  replace f3s := f3s.keep q9
  have f8s := f8.sl.keep q9
  have p9 := bt p8 q9
  refine ⟨fun e => absurd rfl (ne_t e), fun _ => c_laws_likeInts f2s f3s f2.len fun w10 q10 => ⟨fun e => (by cases e), fun _ => ⟨fun e => absurd rfl (ne_t e), fun _ => neqB Try.underlying4 ⟨fun e => (by simp at e), fun _ => ⟨fun e => absurd rfl (ne_t e), fun _ => ⟨fun e => absurd rfl (ne_t e), fun _ => ⟨fun e => absurd rfl (ne_t e), fun _ => ?_⟩⟩⟩⟩⟩⟩⟩
  replace hp := hp.keep q10
  replace f2s := f2s.keep q10
  replace f8s := f8s.keep q10
  have f9s := f9.sl.keep q10
  have p10 := bt p9 q10
  refine c_laws_likeInts f8s f9s f8.len fun w11 q11 => ⟨fun e => (by cases e), fun _ => ?_⟩
  replace hp := hp.keep q11
  replace f2s := f2s.keep q11
  replace f8s := f8s.keep q11
  have p11 := bt p10 q11
  have nl : (nextOf k p kind).1.length ≤ 1000 := by
    unfold nextOf
    split
    · rename_i hc
      split
      · simp
      · split
        · have := nextL_len p kind k.toNat; have := hc.1.2.1; simp only; omega
        · simp
    · simp
  refine sum1 (J := Q_laws_FnSumParts_2 K) hk hd (fun w12 q12 => ?_) p11 hp hpl hi
  have p12 := bt p11 q12
  refine sum2 (J := Q_laws_FnSumParts_3 K) hk hd (fun w13 q13 => ?_) p12 (hp.keep q12) (f8s.keep q12) nl hi
  refine sum3 (J := Q_laws_FnSumParts_4 K) (fun w14 q14 => ?_) (bt p12 q13) ((hp.keep q12).keep q13) ((f2s.keep q12).keep q13) hi
  refine sum4 (J := Q_laws_FnSumParts_5 K) h hl (fun w15 q15 => ?_) q14
  exact sum5 h hl hK q15

end Go.Proofs.Ytlbhpbaeokgmaaa
