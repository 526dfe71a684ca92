/- The reading of impl_Colouring_that, and its contract. No condition. -/
import Derived.Test.YtkadckhealbdaaaTy
import Derived.Test.YtkadckhealbdaaaS8Deg
import Derived.Test.YtkadckhealbdaaaS8App
namespace Go.Proofs.Ytkadckhealbdaaa
open Go Go.RowKit Eng Mem
set_option linter.unusedVariables false
set_option maxRecDepth 100000
def B_impl_Colouring_that_3 (so1 : Value) (x11 : Int) (out5 : Value) (x12 : Int) (N : (Value × Int) → (Value × Int) → World → Prop) (D0 : (Value × Unit) → World → Prop) (w : World) : Prop :=
  (((decide (x12 < x11)) = true → (callV Try.prog so1 #[(.int .i64 x12)] w (.one .bool) fun (x17_6 : Bool) w_5 => ((x17_6 = true → (Pr Try.prog (Instr.buildSlice 31 1 #[(0, (.int .i64 x12))]) w_5 (.one .any) fun (x20_8 : Value) w_7 => (Pr Try.prog (Builtin.append_ #[31, 31] 31 #[out5, x20_8]) w_7 (.one .any) fun (x21_10 : Value) w_9 => N ((so1 : Value), x11) ((x21_10 : Value), (IntKind.i64.wrap (x12 + (1 : Int)))) w_9))) ∧ (x17_6 = false → N ((so1 : Value), x11) ((out5 : Value), (IntKind.i64.wrap (x12 + (1 : Int)))) w_5)))) ∧ ((decide (x12 < x11)) = false → D0 ((out5 : Value), ()) w))

abbrev L_impl_Colouring_that_3_e0 : List Slot := [.junk, .junk, .junk, .junk, .junk, .k .any, .junk, .junk, .junk, .junk, .junk, .junk, .junk, .junk, .junk, .junk, .junk, .junk, .junk, .junk, .junk, .junk, .junk, .junk]

abbrev L_impl_Colouring_that_3_sp : List Slot := [.junk, .k .any, .junk, .junk, .junk, .k .any, .junk, .junk, .junk, .junk, .junk, .k (.int .i64), .k (.int .i64), .junk, .junk, .junk, .junk, .junk, .junk, .junk, .junk, .junk, .junk, .junk]
abbrev L_impl_Colouring_that_3_ex : List (Nat × List Slot) := [(0, L_impl_Colouring_that_3_e0)]
abbrev L_impl_Colouring_that_3_rt : List Slot := [.junk, .junk, .junk, .junk, .junk, .junk, .junk, .junk, .junk, .junk, .junk, .junk, .junk, .junk, .junk, .junk, .junk, .junk, .junk, .junk, .junk, .junk, .junk, .junk]

def L_impl_Colouring_that_3_b (Φ : Post) (u : (Value × Int)) (N : (Value × Int) → (Value × Int) → World → Prop) (s : (Value × Int)) (w : World) : Prop :=
  B_impl_Colouring_that_3 u.1 u.2 s.1 s.2 N (fun v w => ∀ j : Nat → Value, Φ (.exit 0) (mkT j 0 L_impl_Colouring_that_3_e0 v) w) w

theorem L_impl_Colouring_that_3_eq (j : Nat → Value) (u : (Value × Int)) (s : (Value × Int)) (N : (Value × Int) → (Value × Int) → World → Prop) (D0 : (Value × Unit) → World → Prop) (R : (Unit) → World → Prop) (w : World) :
    W Try.prog ty (fun _ _ _ _ => False) (loopAt Try.f135 3) (loopPost L_impl_Colouring_that_3_sp [(0, (⟨L_impl_Colouring_that_3_e0, D0⟩ : Door))] ⟨L_impl_Colouring_that_3_rt, R⟩ (fun v w => N ((fun v => (v.1, v.2.2.1)) v) ((fun v => (v.2.1, v.2.2.2.1)) v) w)) (mkT j 0 L_impl_Colouring_that_3_sp ((fun u s => (u.1, s.1, u.2, s.2, ())) u s)) w =
    B_impl_Colouring_that_3 u.1 u.2 s.1 s.2 N D0 w := by
  kernel_rfl

def O_impl_Colouring_that_1 : Code → Post → List SV → World → Prop :=
  orc 3 (loopAt Try.f135 3) L_impl_Colouring_that_3_sp (fun Φ fr w => LOOP (U := (Value × Int)) (S := (Value × Int)) ((fun v => (v.1, v.2.2.1)) (extT L_impl_Colouring_that_3_sp fr)) (L_impl_Colouring_that_3_b Φ ((fun v => (v.1, v.2.2.1)) (extT L_impl_Colouring_that_3_sp fr))) ((fun v => (v.2.1, v.2.2.2.1)) (extT L_impl_Colouring_that_3_sp fr)) w) (fun _ _ _ _ => False)

theorem O_impl_Colouring_that_1_ok : Sound Try.prog O_impl_Colouring_that_1 :=
  orc_ok (sound_none _) fun Φ fr w hs h => loop_ok (ty := ty) follows (sound_none _) L_impl_Colouring_that_3_sp (fun v => (v.1, v.2.2.1)) (fun v => (v.2.1, v.2.2.2.1)) (fun u s => (u.1, s.1, u.2, s.2, ())) (fun _ => rfl) L_impl_Colouring_that_3_ex L_impl_Colouring_that_3_rt (body := L_impl_Colouring_that_3_b Φ) (fun j u s w N hb => by
    have e := L_impl_Colouring_that_3_eq j u s N (doorOf Φ (.exit 0) L_impl_Colouring_that_3_e0).D (doorOf Φ .ret L_impl_Colouring_that_3_rt).D w
    exact Eq.mpr e hb) hs h

def V_impl_Colouring_that (x0 : Value) (so1 : Value) (w : World) (K : Value → World → Prop) : Prop :=
  (Pr Try.prog (Instr.buildSlice 31 0 #[]) w (.one .any) fun (x7_2 : Value) w_1 => (NilOk x0 ∧ (QAll Try.prog (Instr.fieldAt 25 x0 0) .any fun (x10_3 : Value) => (QSub Try.prog (Instr.loadAt 2 x10_3) w_1 (.int .i64) fun (x11_4 : Int) => (At (loopAt Try.f135 3) (loopAt Try.f135 3) (LOOP (U := (Value × Int)) (S := (Value × Int)) ((so1 : Value), x11_4) (fun N_14 s_15 w_16 => B_impl_Colouring_that_3 (so1 : Value) x11_4 s_15.1 s_15.2 N_14 (fun (v_11 : (Value × Unit)) w_12 => ∀ _j_13 : Nat → Value, K (v_11.1 : Value) w_12) w_16) ((x7_2 : Value), (0 : Int)) w_1))))))

theorem eq_impl_Colouring_that (x0 : Value) (so1 : Value) (w : World) (K : Value → World → Prop) :
    W Try.prog ty O_impl_Colouring_that_1 (bodyOf Try.f135) (fnPost Try.prog Try.f135.results.toList (.one .any) K) (frame0 [x0, so1] 24) w = V_impl_Colouring_that x0 so1 w K := by
  kernel_rfl

theorem body_impl_Colouring_that : Try.f135.body = some (bodyOf Try.f135) := by kernel_rfl
theorem name_impl_Colouring_that : (Try.f135.name == "runtime.NumGoroutine") = false := by kernel_rfl

theorem walk_impl_Colouring_that (x0 : Value) (so1 : Value) {w : World} {K : Value → World → Prop} (h : V_impl_Colouring_that x0 so1 w K) : Fc Try.prog 135 #[x0, so1] w (.one .any) K :=
  fn_ok follows O_impl_Colouring_that_1_ok Try.func135 name_impl_Colouring_that body_impl_Colouring_that Try.ntmps135 [x0, so1] (Eq.mpr (eq_impl_Colouring_that x0 so1 w K) h)

-- uses S8Deg
-- uses S8App
theorem c_impl_Colouring_that {x so : Value} {c : Col} (p : Nat → Bool) {w : World} {K : Value → World → Prop} (hx : ColAt w x c) (n1 : c.n ≤ 17)
    (hso : ∀ j : Nat, j < c.n.toNat → ∀ (w' : World) (K' : Bool → World → Prop), Below w.heap.size w w' → (∀ w'', Below w'.heap.size w' w'' → K' (p j) w'') → callV Try.prog so #[.int .i64 (j : Int)] w' (.one .bool) K')
    (hK : ∀ v w' b, w.heap.size ≤ b → Below w.heap.size w w' → OwnI w' b v (sel p c.n.toNat) → K v w') : Fc Try.prog F_impl_Colouring_that #[x, so] w (.one .any) K := by
  refine walk_impl_Colouring_that _ _ (nilI fun b0 v0 w1 e0 q1 o0 => ⟨hx.nonnil, col_n (hx.keep q1) ?_⟩)
  refine lp (fun s w' => Below w.heap.size w w' ∧ ∃ (j b : Nat), s.2 = j ∧ (j = 0 ∨ j ≤ c.n.toNat) ∧ w.heap.size ≤ b ∧ OwnI w' b s.1 (sel p j)) (fun s _ => (17 - s.2).toNat) ⟨q1, 0, b0, rfl, .inl rfl, Nat.le_of_eq e0, o0⟩ ?_
  rintro ⟨v, t⟩ w2 N ⟨q2, j, b, hj, hjn, hb, ho⟩ hN
  simp only at hj ho
  subst hj
  unfold B_impl_Colouring_that_3
  dsimp only
  have hl := sel_len_le p j
  refine ⟨fun h => ?_, fun h => ?_⟩
  · have h := dec_t h
    refine hso j (by omega) w2 _ q2 fun w3 q3 => ?_
    have q23 := q2.trans (q3.mono q2.size)
    have o3 := ho.keep q3
    have hs := sel_succ p j
    refine ⟨fun hp => ?_, fun hp => ?_⟩
    · rw [if_pos hp] at hs
      refine appI o3 (by omega) fun v' w4 b' o4 m4 hb4 => ?_
      have := q23.size
      rw [wrap_small (by omega) (by omega)]
      refine hN _ _ ⟨q23.trans (m4.below (by omega) (by simp; omega)), j + 1, b', by simp only; omega, by omega, by omega, ?_⟩ (by simp only; omega)
      rw [hs]
      exact o4
    · rw [if_neg (by simp [hp]), List.append_nil] at hs
      rw [wrap_small (by omega) (by omega)]
      refine hN _ _ ⟨q23, j + 1, b, by simp only; omega, by omega, hb, ?_⟩ (by simp only; omega)
      rw [hs]
      exact o3
  · have h := dec_f h
    intro _
    have : j = c.n.toNat := by omega
    subst this
    exact hK v w2 b hb q2 ho

end Go.Proofs.Ytkadckhealbdaaa
