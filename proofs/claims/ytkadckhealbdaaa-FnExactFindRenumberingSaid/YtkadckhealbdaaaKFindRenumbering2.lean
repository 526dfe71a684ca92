/- Texts that the law FnExactFindRenumbering needs, joined. No condition. -/
import Derived.Test.YtkadckhealbdaaaKFindRenumbering1
/- The reading of impl_Colouring_that, and its contract. No condition. -/
namespace Go.Proofs.Ytkadckhealbdaaa
open Go Go.RowKit Eng Mem
set_option linter.unusedVariables false
set_option maxRecDepth 100000
def B_impl_Colouring_that_3 (so1 : Value) (x11 : Int) (out5 : Value) (x12 : Int) (N : (Value × Int) → (Value × Int) → World → Prop) (D0 : (Value × Unit) → World → Prop) (w : World) : Prop :=
  (((decide (x12 < x11)) = true → (callV Try.prog so1 #[(.int .i64 x12)] w (.one .bool) fun (x17_6 : Bool) w_5 => ((x17_6 = true → (Pr Try.prog (Instr.buildSlice 31 1 #[(0, (.int .i64 x12))]) w_5 (.one .any) fun (x20_8 : Value) w_7 => (Pr Try.prog (Builtin.append_ #[31, 31] 31 #[out5, x20_8]) w_7 (.one .any) fun (x21_10 : Value) w_9 => N ((so1 : Value), x11) ((x21_10 : Value), (IntKind.i64.wrap (x12 + (1 : Int)))) w_9))) ∧ (x17_6 = false → N ((so1 : Value), x11) ((out5 : Value), (IntKind.i64.wrap (x12 + (1 : Int)))) w_5)))) ∧ ((decide (x12 < x11)) = false → D0 ((out5 : Value), ()) w))

abbrev L_impl_Colouring_that_3_e0 : List Slot := [.junk, .junk, .junk, .junk, .junk, .k .any, .junk, .junk, .junk, .junk, .junk, .junk, .junk, .junk, .junk, .junk, .junk, .junk, .junk, .junk, .junk, .junk, .junk, .junk]

abbrev L_impl_Colouring_that_3_sp : List Slot := [.junk, .k .any, .junk, .junk, .junk, .k .any, .junk, .junk, .junk, .junk, .junk, .k (.int .i64), .k (.int .i64), .junk, .junk, .junk, .junk, .junk, .junk, .junk, .junk, .junk, .junk, .junk]
abbrev L_impl_Colouring_that_3_ex : List (Nat × List Slot) := [(0, L_impl_Colouring_that_3_e0)]
abbrev L_impl_Colouring_that_3_rt : List Slot := [.junk, .junk, .junk, .junk, .junk, .junk, .junk, .junk, .junk, .junk, .junk, .junk, .junk, .junk, .junk, .junk, .junk, .junk, .junk, .junk, .junk, .junk, .junk, .junk]

def L_impl_Colouring_that_3_b (Φ : Post) (u : (Value × Int)) (N : (Value × Int) → (Value × Int) → World → Prop) (s : (Value × Int)) (w : World) : Prop :=
  B_impl_Colouring_that_3 u.1 u.2 s.1 s.2 N (fun v w => ∀ j : Nat → Value, Φ (.exit 0) (mkT j 0 L_impl_Colouring_that_3_e0 v) w) w

theorem L_impl_Colouring_that_3_eq (j : Nat → Value) (u : (Value × Int)) (s : (Value × Int)) (N : (Value × Int) → (Value × Int) → World → Prop) (D0 : (Value × Unit) → World → Prop) (R : (Unit) → World → Prop) (w : World) :
    W Try.prog ty (fun _ _ _ _ => False) (loopAt Try.f135 3) (loopPost L_impl_Colouring_that_3_sp [(0, (⟨L_impl_Colouring_that_3_e0, D0⟩ : Door))] ⟨L_impl_Colouring_that_3_rt, R⟩ (fun v w => N ((fun v => (v.1, v.2.2.1)) v) ((fun v => (v.2.1, v.2.2.2.1)) v) w)) (mkT j 0 L_impl_Colouring_that_3_sp ((fun u s => (u.1, s.1, u.2, s.2, ())) u s)) w =
    B_impl_Colouring_that_3 u.1 u.2 s.1 s.2 N D0 w := by
  kernel_rfl

def O_impl_Colouring_that_1 : Code → Post → List SV → World → Prop :=
  orc 3 (loopAt Try.f135 3) L_impl_Colouring_that_3_sp (fun Φ fr w => LOOP (U := (Value × Int)) (S := (Value × Int)) ((fun v => (v.1, v.2.2.1)) (extT L_impl_Colouring_that_3_sp fr)) (L_impl_Colouring_that_3_b Φ ((fun v => (v.1, v.2.2.1)) (extT L_impl_Colouring_that_3_sp fr))) ((fun v => (v.2.1, v.2.2.2.1)) (extT L_impl_Colouring_that_3_sp fr)) w) (fun _ _ _ _ => False)

theorem O_impl_Colouring_that_1_ok : Sound Try.prog O_impl_Colouring_that_1 :=
  orc_ok (sound_none _) fun Φ fr w hs h => loop_ok (ty := ty) follows (sound_none _) L_impl_Colouring_that_3_sp (fun v => (v.1, v.2.2.1)) (fun v => (v.2.1, v.2.2.2.1)) (fun u s => (u.1, s.1, u.2, s.2, ())) (fun _ => rfl) L_impl_Colouring_that_3_ex L_impl_Colouring_that_3_rt (body := L_impl_Colouring_that_3_b Φ) (fun j u s w N hb => by
    have e := L_impl_Colouring_that_3_eq j u s N (doorOf Φ (.exit 0) L_impl_Colouring_that_3_e0).D (doorOf Φ .ret L_impl_Colouring_that_3_rt).D w
    exact Eq.mpr e hb) hs h

def V_impl_Colouring_that (x0 : Value) (so1 : Value) (w : World) (K : Value → World → Prop) : Prop :=
  (Pr Try.prog (Instr.buildSlice 31 0 #[]) w (.one .any) fun (x7_2 : Value) w_1 => (NilOk x0 ∧ (QAll Try.prog (Instr.fieldAt 25 x0 0) .any fun (x10_3 : Value) => (QSub Try.prog (Instr.loadAt 2 x10_3) w_1 (.int .i64) fun (x11_4 : Int) => (At (loopAt Try.f135 3) (loopAt Try.f135 3) (LOOP (U := (Value × Int)) (S := (Value × Int)) ((so1 : Value), x11_4) (fun N_14 s_15 w_16 => B_impl_Colouring_that_3 (so1 : Value) x11_4 s_15.1 s_15.2 N_14 (fun (v_11 : (Value × Unit)) w_12 => ∀ _j_13 : Nat → Value, K (v_11.1 : Value) w_12) w_16) ((x7_2 : Value), (0 : Int)) w_1))))))

theorem eq_impl_Colouring_that (x0 : Value) (so1 : Value) (w : World) (K : Value → World → Prop) :
    W Try.prog ty O_impl_Colouring_that_1 (bodyOf Try.f135) (fnPost Try.prog Try.f135.results.toList (.one .any) K) (frame0 [x0, so1] 24) w = V_impl_Colouring_that x0 so1 w K := by
  kernel_rfl

theorem body_impl_Colouring_that : Try.f135.body = some (bodyOf Try.f135) := by kernel_rfl
theorem name_impl_Colouring_that : (Try.f135.name == "runtime.NumGoroutine") = false := by kernel_rfl

theorem walk_impl_Colouring_that (x0 : Value) (so1 : Value) {w : World} {K : Value → World → Prop} (h : V_impl_Colouring_that x0 so1 w K) : Fc Try.prog 135 #[x0, so1] w (.one .any) K :=
  fn_ok follows O_impl_Colouring_that_1_ok Try.func135 name_impl_Colouring_that body_impl_Colouring_that Try.ntmps135 [x0, so1] (Eq.mpr (eq_impl_Colouring_that x0 so1 w K) h)

-- uses S8Deg
-- uses S8App
theorem c_impl_Colouring_that {x so : Value} {c : Col} (p : Nat → Bool) {w : World} {K : Value → World → Prop} (hx : ColAt w x c) (n1 : c.n ≤ 17)
    (hso : ∀ j : Nat, j < c.n.toNat → ∀ (w' : World) (K' : Bool → World → Prop), Below w.heap.size w w' → (∀ w'', Below w'.heap.size w' w'' → K' (p j) w'') → callV Try.prog so #[.int .i64 (j : Int)] w' (.one .bool) K')
    (hK : ∀ v w' b, w.heap.size ≤ b → Below w.heap.size w w' → OwnI w' b v (sel p c.n.toNat) → K v w') : Fc Try.prog F_impl_Colouring_that #[x, so] w (.one .any) K := by
  refine walk_impl_Colouring_that _ _ (nilI fun b0 v0 w1 e0 q1 o0 => ⟨hx.nonnil, col_n (hx.keep q1) ?_⟩)
  refine lp (fun s w' => Below w.heap.size w w' ∧ ∃ (j b : Nat), s.2 = j ∧ (j = 0 ∨ j ≤ c.n.toNat) ∧ w.heap.size ≤ b ∧ OwnI w' b s.1 (sel p j)) (fun s _ => (17 - s.2).toNat) ⟨q1, 0, b0, rfl, .inl rfl, Nat.le_of_eq e0, o0⟩ ?_
  rintro ⟨v, t⟩ w2 N ⟨q2, j, b, hj, hjn, hb, ho⟩ hN
  simp only at hj ho
  subst hj
  unfold B_impl_Colouring_that_3
  dsimp only
  have hl := sel_len_le p j
  refine ⟨fun h => ?_, fun h => ?_⟩
  · have h := dec_t h
    refine hso j (by omega) w2 _ q2 fun w3 q3 => ?_
    have q23 := q2.trans (q3.mono q2.size)
    have o3 := ho.keep q3
    have hs := sel_succ p j
    refine ⟨fun hp => ?_, fun hp => ?_⟩
    · rw [if_pos hp] at hs
      refine appI o3 (by omega) fun v' w4 b' o4 m4 hb4 => ?_
      have := q23.size
      rw [wrap_small (by omega) (by omega)]
      refine hN _ _ ⟨q23.trans (m4.below (by omega) (by simp; omega)), j + 1, b', by simp only; omega, by omega, by omega, ?_⟩ (by simp only; omega)
      rw [hs]
      exact o4
    · rw [if_neg (by simp [hp]), List.append_nil] at hs
      rw [wrap_small (by omega) (by omega)]
      refine hN _ _ ⟨q23, j + 1, b, by simp only; omega, by omega, hb, ?_⟩ (by simp only; omega)
      rw [hs]
      exact o3
  · have h := dec_f h
    intro _
    have : j = c.n.toNat := by omega
    subst this
    exact hK v w2 b hb q2 ho

end Go.Proofs.Ytkadckhealbdaaa

/- The reading of impl_Colouring_points, and its contract. No condition. -/
namespace Go.Proofs.Ytkadckhealbdaaa
open Go Go.RowKit Eng Mem
set_option linter.unusedVariables false
set_option maxRecDepth 100000
def V_impl_Colouring_points (x0 : Value) (w : World) (K : Value → World → Prop) : Prop :=
  (Fc Try.prog 135 #[x0, (.func (.func 136) #[] #[])] w (.one .any) fun (x4_2 : Value) w_1 => K (x4_2 : Value) w_1)

theorem eq_impl_Colouring_points (x0 : Value) (w : World) (K : Value → World → Prop) :
    W Try.prog ty (fun _ _ _ _ => False) (bodyOf Try.f120) (fnPost Try.prog Try.f120.results.toList (.one .any) K) (frame0 [x0] 5) w = V_impl_Colouring_points x0 w K := by
  kernel_rfl

theorem body_impl_Colouring_points : Try.f120.body = some (bodyOf Try.f120) := by kernel_rfl
theorem name_impl_Colouring_points : (Try.f120.name == "runtime.NumGoroutine") = false := by kernel_rfl

theorem walk_impl_Colouring_points (x0 : Value) {w : World} {K : Value → World → Prop} (h : V_impl_Colouring_points x0 w K) : Fc Try.prog 120 #[x0] w (.one .any) K :=
  fn_ok follows (sound_none _) Try.func120 name_impl_Colouring_points body_impl_Colouring_points Try.ntmps120 [x0] (Eq.mpr (eq_impl_Colouring_points x0 w K) h)

-- uses S9IsoM
theorem c_impl_Colouring_points {x : Value} {c : Col} {w : World} {K : Value → World → Prop} (hx : ColAt w x c) (n1 : c.n ≤ 17)
    (hK : ∀ v w' b, w.heap.size ≤ b → Below w.heap.size w w' → OwnI w' b v (sel (fun _ => true) c.n.toNat) → K v w') : Fc Try.prog F_impl_Colouring_points #[x] w (.one .any) K :=
  walk_impl_Colouring_points _ (c_impl_Colouring_that (fun _ => true) hx n1 (fun j hj w' K' hb hk => cv rfl (c_impl_Colouring_points_1 (hk _ (Below.refl _ _)))) hK)

end Go.Proofs.Ytkadckhealbdaaa

/- The reading of impl_number, and its contract. No condition. -/
namespace Go.Proofs.Ytkadckhealbdaaa
open Go Go.RowKit Eng Mem
set_option linter.unusedVariables false
set_option maxRecDepth 100000
def V_impl_number (i0 : Int) (j1 : Int) (w : World) (K : Int → World → Prop) : Prop :=
  (QAll Try.prog (Builtin.min_ #[2, 2] 2 #[(.int .i64 i0), (.int .i64 j1)]) (.int .i64) fun (x7_1 : Int) => (QAll Try.prog (Builtin.max_ #[2, 2] 2 #[(.int .i64 i0), (.int .i64 j1)]) (.int .i64) fun (x10_2 : Int) => ((2 : Int) ≠ 0 ∧ K (IntKind.i64.wrap ((IntKind.i64.wrap (Int.tdiv (IntKind.i64.wrap (x10_2 * (IntKind.i64.wrap (x10_2 - (1 : Int))))) (2 : Int))) + x7_1)) w)))

theorem eq_impl_number (i0 : Int) (j1 : Int) (w : World) (K : Int → World → Prop) :
    W Try.prog ty (fun _ _ _ _ => False) (bodyOf Try.f115) (fnPost Try.prog Try.f115.results.toList (.one (.int .i64)) K) (frame0 [(.int .i64 i0), (.int .i64 j1)] 18) w = V_impl_number i0 j1 w K := by
  kernel_rfl

theorem body_impl_number : Try.f115.body = some (bodyOf Try.f115) := by kernel_rfl
theorem name_impl_number : (Try.f115.name == "runtime.NumGoroutine") = false := by kernel_rfl

theorem walk_impl_number (i0 : Int) (j1 : Int) {w : World} {K : Int → World → Prop} (h : V_impl_number i0 j1 w K) : Fc Try.prog 115 #[(.int .i64 i0), (.int .i64 j1)] w (.one (.int .i64)) K :=
  fn_ok follows (sound_none _) Try.func115 name_impl_number body_impl_number Try.ntmps115 [(.int .i64 i0), (.int .i64 j1)] (Eq.mpr (eq_impl_number i0 j1 w K) h)

-- uses S5Made
theorem c_impl_number {i j : Int} {w : World} {K : Int → World → Prop} (h0 : 0 ≤ i) (h1 : i ≤ 17) (k0 : 0 ≤ j) (k1 : j ≤ 17) (hK : K (num i j) w) : Fc Try.prog F_impl_number #[.int .i64 i, .int .i64 j] w (.one (.int .i64)) K := by
  refine walk_impl_number _ _ (mn (mx ⟨by decide, ?_⟩))
  by_cases h : i < j
  · rw [if_pos (show j > i from h), if_neg (by omega), wnum h0 h1 k0 k1]
    rwa [num_of h] at hK
  · rw [if_neg (show ¬ j > i from h)]
    unfold num at hK
    rw [if_neg h] at hK
    by_cases h' : j < i
    · rw [if_pos h', wnum k0 k1 h0 h1]; exact hK
    · have : i = j := by omega
      subst this
      rw [if_neg h', wnum k0 k1 h0 h1]; exact hK

end Go.Proofs.Ytkadckhealbdaaa

/- The reading of impl_Colouring_at, and its contract. No condition. -/
namespace Go.Proofs.Ytkadckhealbdaaa
open Go Go.RowKit Eng Mem
set_option linter.unusedVariables false
set_option maxRecDepth 100000
def V_impl_Colouring_at (x0 : Value) (i1 : Int) (j2 : Int) (w : World) (K : Int → World → Prop) : Prop :=
  (∀ w_1, Drew w w_1 → (NilOk x0 ∧ (QAll Try.prog (Instr.fieldAt 25 x0 2) .any fun (x12_2 : Value) => (Fc Try.prog 115 #[(.int .i64 i1), (.int .i64 j2)] w_1 (.one (.int .i64)) fun (x10_4 : Int) w_3 => (Keeps w_1 w_3 ((QAll Try.prog (Instr.indexAt 22 x12_2 (.int .i64 x10_4)) .any fun (x13_5 : Value) => (QSub Try.prog (Instr.loadAt 5 x13_5) w_3 (.int .u8) fun (x14_6 : Int) => (QAll Try.prog (convert 5 2 (.int .u8 x14_6)) (.int .i64) fun (x15_7 : Int) => K x15_7 w_3)))))))))

theorem eq_impl_Colouring_at (x0 : Value) (i1 : Int) (j2 : Int) (w : World) (K : Int → World → Prop) :
    W Try.prog ty (fun _ _ _ _ => False) (bodyOf Try.f89) (fnPost Try.prog Try.f89.results.toList (.one (.int .i64)) K) (frame0 [x0, (.int .i64 i1), (.int .i64 j2)] 16) w = V_impl_Colouring_at x0 i1 j2 w K := by
  kernel_rfl

theorem body_impl_Colouring_at : Try.f89.body = some (bodyOf Try.f89) := by kernel_rfl
theorem name_impl_Colouring_at : (Try.f89.name == "runtime.NumGoroutine") = false := by kernel_rfl

theorem walk_impl_Colouring_at (x0 : Value) (i1 : Int) (j2 : Int) {w : World} {K : Int → World → Prop} (h : V_impl_Colouring_at x0 i1 j2 w K) : Fc Try.prog 89 #[x0, (.int .i64 i1), (.int .i64 j2)] w (.one (.int .i64)) K :=
  fn_ok follows (sound_none _) Try.func89 name_impl_Colouring_at body_impl_Colouring_at Try.ntmps89 [x0, (.int .i64 i1), (.int .i64 j2)] (Eq.mpr (eq_impl_Colouring_at x0 i1 j2 w K) h)

-- uses S5Made
theorem c_impl_Colouring_at {p : Value} {c : Col} {i j : Int} {w : World} {K : Int → World → Prop} (hc : c.Ok) (hx : ColAt w p c) (h0 : 0 ≤ i) (h1 : i < 17) (k0 : 0 ≤ j) (k1 : j < 17) (hne : i ≠ j) (hK : ∀ w', Below w.heap.size w w' → K (c.e (num i j).toNat) w') :
    Fc Try.prog F_impl_Colouring_at #[p, .int .i64 i, .int .i64 j] w (.one (.int .i64)) K := by
  refine walk_impl_Colouring_at _ _ _ ?_
  intro w1 hd
  have hb := hd.below w.heap.size
  have hx := hx.keep hb
  have hn := num_lt h0 h1 k0 k1 (Int.le_refl _) hne
  rw [show edgesOf 17 = 136 from by decide] at hn
  have hbd := hc.e_bd (num i j).toNat
  exact ⟨hx.nonnil, fld f2 hx.nonnil hx.isPtr (c_impl_number h0 (by omega) k0 (by omega) ⟨Below.refl _ _, es_e hc (Col.es_row hx) hn.1 hn.2 (u8_int hbd.1 hbd.2 (hK w1 hb))⟩)⟩

end Go.Proofs.Ytkadckhealbdaaa

/- The reading of impl_Colouring_degreesAt, and its contract. No condition. -/
namespace Go.Proofs.Ytkadckhealbdaaa
open Go Go.RowKit Eng Mem
set_option linter.unusedVariables false
set_option maxRecDepth 100000
def B_impl_Colouring_degreesAt_3 (x0 : Value) (i1 : Int) (out5 : Value) (x15 : Int) (x16 : Int) (N : (Value × Int × Value × Int) → Int → World → Prop) (D0 : (Value × Unit) → World → Prop) (w : World) : Prop :=
  (((decide (x16 < x15)) = true → (((x16 != i1) = true → (Fc Try.prog 89 #[x0, (.int .i64 i1), (.int .i64 x16)] w (.one (.int .i64)) fun (x26_8 : Int) w_7 => (QAll Try.prog (Instr.indexAt 31 out5 (.int .i64 x26_8)) .any fun (x27_9 : Value) => (QSub Try.prog (Instr.loadAt 2 x27_9) w_7 (.int .i64) fun (x28_10 : Int) => (QAll Try.prog (Instr.indexAt 31 out5 (.int .i64 x26_8)) .any fun (x30_11 : Value) => (PrU Try.prog (Instr.storeAt 2 x30_11 (.int .i64 (IntKind.i64.wrap (x28_10 + (1 : Int))))) w_7 fun w_12 => N ((x0 : Value), i1, (out5 : Value), x15) (IntKind.i64.wrap (x16 + (1 : Int))) w_12)))))) ∧ ((x16 != i1) = false → N ((x0 : Value), i1, (out5 : Value), x15) (IntKind.i64.wrap (x16 + (1 : Int))) w))) ∧ ((decide (x16 < x15)) = false → D0 ((out5 : Value), ()) w))

abbrev L_impl_Colouring_degreesAt_3_e0 : List Slot := [.junk, .junk, .junk, .junk, .junk, .k .any, .junk, .junk, .junk, .junk, .junk, .junk, .junk, .junk, .junk, .junk, .junk, .junk, .junk, .junk, .junk, .junk, .junk, .junk, .junk, .junk, .junk, .junk, .junk, .junk, .junk, .junk, .junk]

abbrev L_impl_Colouring_degreesAt_3_sp : List Slot := [.k .any, .k (.int .i64), .junk, .junk, .junk, .k .any, .junk, .junk, .junk, .junk, .junk, .junk, .junk, .junk, .junk, .k (.int .i64), .k (.int .i64), .junk, .junk, .junk, .junk, .junk, .junk, .junk, .junk, .junk, .junk, .junk, .junk, .junk, .junk, .junk, .junk]
abbrev L_impl_Colouring_degreesAt_3_ex : List (Nat × List Slot) := [(0, L_impl_Colouring_degreesAt_3_e0)]
abbrev L_impl_Colouring_degreesAt_3_rt : List Slot := [.junk, .junk, .junk, .junk, .junk, .junk, .junk, .junk, .junk, .junk, .junk, .junk, .junk, .junk, .junk, .junk, .junk, .junk, .junk, .junk, .junk, .junk, .junk, .junk, .junk, .junk, .junk, .junk, .junk, .junk, .junk, .junk, .junk]

def L_impl_Colouring_degreesAt_3_b (Φ : Post) (u : (Value × Int × Value × Int)) (N : (Value × Int × Value × Int) → Int → World → Prop) (s : Int) (w : World) : Prop :=
  B_impl_Colouring_degreesAt_3 u.1 u.2.1 u.2.2.1 u.2.2.2 s N (fun v w => ∀ j : Nat → Value, Φ (.exit 0) (mkT j 0 L_impl_Colouring_degreesAt_3_e0 v) w) w

theorem L_impl_Colouring_degreesAt_3_eq (j : Nat → Value) (u : (Value × Int × Value × Int)) (s : Int) (N : (Value × Int × Value × Int) → Int → World → Prop) (D0 : (Value × Unit) → World → Prop) (R : (Unit) → World → Prop) (w : World) :
    W Try.prog ty (fun _ _ _ _ => False) (loopAt Try.f134 3) (loopPost L_impl_Colouring_degreesAt_3_sp [(0, (⟨L_impl_Colouring_degreesAt_3_e0, D0⟩ : Door))] ⟨L_impl_Colouring_degreesAt_3_rt, R⟩ (fun v w => N ((fun v => (v.1, v.2.1, v.2.2.1, v.2.2.2.1)) v) ((fun v => v.2.2.2.2.1) v) w)) (mkT j 0 L_impl_Colouring_degreesAt_3_sp ((fun u s => (u.1, u.2.1, u.2.2.1, u.2.2.2, s, ())) u s)) w =
    B_impl_Colouring_degreesAt_3 u.1 u.2.1 u.2.2.1 u.2.2.2 s N D0 w := by
  kernel_rfl

def O_impl_Colouring_degreesAt_1 : Code → Post → List SV → World → Prop :=
  orc 3 (loopAt Try.f134 3) L_impl_Colouring_degreesAt_3_sp (fun Φ fr w => LOOP (U := (Value × Int × Value × Int)) (S := Int) ((fun v => (v.1, v.2.1, v.2.2.1, v.2.2.2.1)) (extT L_impl_Colouring_degreesAt_3_sp fr)) (L_impl_Colouring_degreesAt_3_b Φ ((fun v => (v.1, v.2.1, v.2.2.1, v.2.2.2.1)) (extT L_impl_Colouring_degreesAt_3_sp fr))) ((fun v => v.2.2.2.2.1) (extT L_impl_Colouring_degreesAt_3_sp fr)) w) (fun _ _ _ _ => False)

theorem O_impl_Colouring_degreesAt_1_ok : Sound Try.prog O_impl_Colouring_degreesAt_1 :=
  orc_ok (sound_none _) fun Φ fr w hs h => loop_ok (ty := ty) follows (sound_none _) L_impl_Colouring_degreesAt_3_sp (fun v => (v.1, v.2.1, v.2.2.1, v.2.2.2.1)) (fun v => v.2.2.2.2.1) (fun u s => (u.1, u.2.1, u.2.2.1, u.2.2.2, s, ())) (fun _ => rfl) L_impl_Colouring_degreesAt_3_ex L_impl_Colouring_degreesAt_3_rt (body := L_impl_Colouring_degreesAt_3_b Φ) (fun j u s w N hb => by
    have e := L_impl_Colouring_degreesAt_3_eq j u s N (doorOf Φ (.exit 0) L_impl_Colouring_degreesAt_3_e0).D (doorOf Φ .ret L_impl_Colouring_degreesAt_3_rt).D w
    exact Eq.mpr e hb) hs h

def V_impl_Colouring_degreesAt (x0 : Value) (i1 : Int) (w : World) (K : Value → World → Prop) : Prop :=
  (NilOk x0 ∧ (QAll Try.prog (Instr.fieldAt 25 x0 1) .any fun (x9_1 : Value) => (QSub Try.prog (Instr.loadAt 2 x9_1) w (.int .i64) fun (x10_2 : Int) => (Pr Try.prog (Instr.makeSlice 31 (.int .i64 x10_2) (.int .i64 x10_2)) w (.one .any) fun (x11_4 : Value) w_3 => (NilOk x0 ∧ (QAll Try.prog (Instr.fieldAt 25 x0 0) .any fun (x14_5 : Value) => (QSub Try.prog (Instr.loadAt 2 x14_5) w_3 (.int .i64) fun (x15_6 : Int) => (At (loopAt Try.f134 3) (loopAt Try.f134 3) (LOOP (U := (Value × Int × Value × Int)) (S := Int) ((x0 : Value), i1, (x11_4 : Value), x15_6) (fun N_17 s_18 w_19 => B_impl_Colouring_degreesAt_3 (x0 : Value) i1 (x11_4 : Value) x15_6 s_18 N_17 (fun (v_14 : (Value × Unit)) w_15 => ∀ _j_16 : Nat → Value, K (v_14.1 : Value) w_15) w_19) (0 : Int) w_3)))))))))

theorem eq_impl_Colouring_degreesAt (x0 : Value) (i1 : Int) (w : World) (K : Value → World → Prop) :
    W Try.prog ty O_impl_Colouring_degreesAt_1 (bodyOf Try.f134) (fnPost Try.prog Try.f134.results.toList (.one .any) K) (frame0 [x0, (.int .i64 i1)] 33) w = V_impl_Colouring_degreesAt x0 i1 w K := by
  kernel_rfl

theorem body_impl_Colouring_degreesAt : Try.f134.body = some (bodyOf Try.f134) := by kernel_rfl
theorem name_impl_Colouring_degreesAt : (Try.f134.name == "runtime.NumGoroutine") = false := by kernel_rfl

theorem walk_impl_Colouring_degreesAt (x0 : Value) (i1 : Int) {w : World} {K : Value → World → Prop} (h : V_impl_Colouring_degreesAt x0 i1 w K) : Fc Try.prog 134 #[x0, (.int .i64 i1)] w (.one .any) K :=
  fn_ok follows O_impl_Colouring_degreesAt_1_ok Try.func134 name_impl_Colouring_degreesAt body_impl_Colouring_degreesAt Try.ntmps134 [x0, (.int .i64 i1)] (Eq.mpr (eq_impl_Colouring_degreesAt x0 i1 w K) h)

-- uses S9IsoM
theorem c_impl_Colouring_degreesAt {p : Value} {x : Col} {i : Int} {w : World} {K : Value → World → Prop} (hx : x.Ok) (hI : x.Is) (ax : ColAt w p x) (i0 : 0 ≤ i) (i1 : i < x.n)
    (hK : ∀ v w' b, w.heap.size ≤ b → Below w.heap.size w w' → OwnI w' b v (degK x i x.n.toNat) → K v w') : Fc Try.prog F_impl_Colouring_degreesAt #[p, .int .i64 i] w (.one .any) K := by
  have n0 := hI.1; have n1 := hI.2.1; have k0 := hI.2.2.1; have k4 := hI.2.2.2.1
  refine walk_impl_Colouring_degreesAt _ _ ⟨ax.nonnil, col_k ax (mkI (by omega) (by omega) fun b v w1 m1 o1 => ⟨ax.nonnil, col_n (ax.keep m1.below) ?_⟩)⟩
  have q1 := m1.below
  have e1 := m1.here
  have h0 : degK x i 0 = List.replicate x.k.toNat 0 := by
    unfold degK
    apply List.ext_getElem
    · simp
    · intro a h1 h2; rw [List.getElem_replicate]; simp [degP]
  refine lp (fun s w' => Below w.heap.size w w' ∧ ∃ j : Nat, s = j ∧ j ≤ x.n.toNat ∧ OwnI w' b v (degK x i j)) (fun s _ => (17 - s).toNat) ⟨q1, 0, rfl, by omega, by rw [h0]; exact o1⟩ ?_
  rintro t w2 N ⟨q2, j, hj, hjn, ho⟩ hN
  subst hj
  unfold B_impl_Colouring_degreesAt_3
  refine ⟨fun hlt => ?_, fun hge => ?_⟩
  · have hlt := dec_t hlt
    refine ⟨fun hne => ?_, fun he => ?_⟩
    · have hne := ne_t hne
      refine c_impl_Colouring_at hx (ax.keep q2) i0 (by omega) (by omega) (by omega) (Ne.symm hne) fun w3 q3 => ?_
      have hnum := num_lt i0 i1 (show (0 : Int) ≤ j by omega) hlt n1 (Ne.symm hne)
      have hed := edges_bd (n := x.n) (by omega) n1
      have hlt' := hI.2.2.2.2 (num i j).toNat (by omega)
      rw [if_pos (by omega)] at hlt'
      have hbd := hx.e_bd (num i j).toNat
      have o3 := ho.keep q3
      have hlen := degK_len x i j
      have hdp := degP_le x i (x.e (num i j).toNat) j
      have hget := degK_get x i j (c := (x.e (num i j).toNat).toNat) (by omega)
      rw [Int.toNat_of_nonneg hbd.1] at hget
      have hset := degK_set (x := x) (i := i) (j := j) (Ne.symm hne) hbd.1 hlt'
      unfold colAt at hset
      refine atI (own_slI o3 (by omega)) hbd.1 (by omega) ?_
      have q23 := q2.trans (q3.mono q2.size)
      rw [hget, wrap_small (by omega) (by omega)]
      refine putI o3 hbd.1 (by omega) fun w4 m4 s4 o4 => ?_
      rw [wrap_small (by omega) (by omega)]
      rw [hget] at hset
      rw [hset] at o4
      have hs := q23.size
      exact hN _ _ ⟨q23.trans (m4.below (by omega) (by simp; omega)), j + 1, by omega, by omega, o4⟩ (by omega)
    · have he := ne_f he
      rw [wrap_small (by omega) (by omega)]
      refine hN _ _ ⟨q2, j + 1, by omega, by omega, ?_⟩ (by omega)
      rw [degK_same he.symm]
      exact ho
  · have hge := dec_f hge
    have : j = x.n.toNat := by omega
    subst this
    intro _
    exact hK v w2 b (by omega) q2 ho

end Go.Proofs.Ytkadckhealbdaaa

/- The reading of slices_Equal_int64_int64, and its contract. No condition. -/
namespace Go.Proofs.Ytkadckhealbdaaa
open Go Go.RowKit Eng Mem
set_option linter.unusedVariables false
set_option maxRecDepth 100000
def B_slices_Equal_int64_int64_4 (s10 : Value) (s21 : Value) (x12 : Int) (x13 : Int) (N : (Value × Value × Int) → Int → World → Prop) (D0 : (Unit) → World → Prop) (R : (Bool × Unit) → World → Prop) (w : World) : Prop :=
  (((decide (x13 < x12)) = true → (∀ w_4, Drew w w_4 → (QAll Try.prog (Instr.indexAt 31 s10 (.int .i64 x13)) .any fun (x18_5 : Value) => (QSub Try.prog (Instr.loadAt 2 x18_5) w_4 (.int .i64) fun (x19_6 : Int) => (QAll Try.prog (Instr.indexAt 31 s21 (.int .i64 x13)) .any fun (x22_7 : Value) => (QSub Try.prog (Instr.loadAt 2 x22_7) w_4 (.int .i64) fun (x23_8 : Int) => (((x19_6 != x23_8) = true → R (false, ()) w_4) ∧ ((x19_6 != x23_8) = false → N ((s10 : Value), (s21 : Value), x12) (IntKind.i64.wrap (x13 + (1 : Int))) w_4)))))))) ∧ ((decide (x13 < x12)) = false → D0 () w))

abbrev L_slices_Equal_int64_int64_4_e0 : List Slot := [.junk, .junk, .junk, .junk, .junk, .junk, .junk, .junk, .junk, .junk, .junk, .junk, .junk, .junk, .junk, .junk, .junk, .junk, .junk, .junk, .junk, .junk, .junk, .junk, .junk, .junk]

abbrev L_slices_Equal_int64_int64_4_sp : List Slot := [.k .any, .k .any, .junk, .junk, .junk, .junk, .junk, .junk, .junk, .junk, .junk, .junk, .k (.int .i64), .k (.int .i64), .junk, .junk, .junk, .junk, .junk, .junk, .junk, .junk, .junk, .junk, .junk, .junk]
abbrev L_slices_Equal_int64_int64_4_ex : List (Nat × List Slot) := [(0, L_slices_Equal_int64_int64_4_e0)]
abbrev L_slices_Equal_int64_int64_4_rt : List Slot := [.junk, .junk, .junk, .junk, .k .bool, .junk, .junk, .junk, .junk, .junk, .junk, .junk, .junk, .junk, .junk, .junk, .junk, .junk, .junk, .junk, .junk, .junk, .junk, .junk, .junk, .junk]

def L_slices_Equal_int64_int64_4_b (Φ : Post) (u : (Value × Value × Int)) (N : (Value × Value × Int) → Int → World → Prop) (s : Int) (w : World) : Prop :=
  B_slices_Equal_int64_int64_4 u.1 u.2.1 u.2.2 s N (fun v w => ∀ j : Nat → Value, Φ (.exit 0) (mkT j 0 L_slices_Equal_int64_int64_4_e0 v) w) (fun v w => ∀ j : Nat → Value, Φ .ret (mkT j 0 L_slices_Equal_int64_int64_4_rt v) w) w

theorem L_slices_Equal_int64_int64_4_eq (j : Nat → Value) (u : (Value × Value × Int)) (s : Int) (N : (Value × Value × Int) → Int → World → Prop) (D0 : (Unit) → World → Prop) (R : (Bool × Unit) → World → Prop) (w : World) :
    W Try.prog ty (fun _ _ _ _ => False) (loopAt Try.f133 4) (loopPost L_slices_Equal_int64_int64_4_sp [(0, (⟨L_slices_Equal_int64_int64_4_e0, D0⟩ : Door))] ⟨L_slices_Equal_int64_int64_4_rt, R⟩ (fun v w => N ((fun v => (v.1, v.2.1, v.2.2.1)) v) ((fun v => v.2.2.2.1) v) w)) (mkT j 0 L_slices_Equal_int64_int64_4_sp ((fun u s => (u.1, u.2.1, u.2.2, s, ())) u s)) w =
    B_slices_Equal_int64_int64_4 u.1 u.2.1 u.2.2 s N D0 R w := by
  kernel_rfl

def O_slices_Equal_int64_int64_1 : Code → Post → List SV → World → Prop :=
  orc 4 (loopAt Try.f133 4) L_slices_Equal_int64_int64_4_sp (fun Φ fr w => LOOP (U := (Value × Value × Int)) (S := Int) ((fun v => (v.1, v.2.1, v.2.2.1)) (extT L_slices_Equal_int64_int64_4_sp fr)) (L_slices_Equal_int64_int64_4_b Φ ((fun v => (v.1, v.2.1, v.2.2.1)) (extT L_slices_Equal_int64_int64_4_sp fr))) ((fun v => v.2.2.2.1) (extT L_slices_Equal_int64_int64_4_sp fr)) w) (fun _ _ _ _ => False)

theorem O_slices_Equal_int64_int64_1_ok : Sound Try.prog O_slices_Equal_int64_int64_1 :=
  orc_ok (sound_none _) fun Φ fr w hs h => loop_ok (ty := ty) follows (sound_none _) L_slices_Equal_int64_int64_4_sp (fun v => (v.1, v.2.1, v.2.2.1)) (fun v => v.2.2.2.1) (fun u s => (u.1, u.2.1, u.2.2, s, ())) (fun _ => rfl) L_slices_Equal_int64_int64_4_ex L_slices_Equal_int64_int64_4_rt (body := L_slices_Equal_int64_int64_4_b Φ) (fun j u s w N hb => by
    have e := L_slices_Equal_int64_int64_4_eq j u s N (doorOf Φ (.exit 0) L_slices_Equal_int64_int64_4_e0).D (doorOf Φ .ret L_slices_Equal_int64_int64_4_rt).D w
    exact Eq.mpr e hb) hs h

def V_slices_Equal_int64_int64 (s10 : Value) (s21 : Value) (w : World) (K : Bool → World → Prop) : Prop :=
  (QAll Try.prog (Builtin.len_ #[31] 3 #[s10]) (.int .i64) fun (x7_1 : Int) => (QAll Try.prog (Builtin.len_ #[31] 3 #[s21]) (.int .i64) fun (x9_2 : Int) => (((x7_1 != x9_2) = true → K false w) ∧ ((x7_1 != x9_2) = false → (QAll Try.prog (Builtin.len_ #[31] 3 #[s10]) (.int .i64) fun (x12_3 : Int) => (At (loopAt Try.f133 4) (loopAt Try.f133 4) (LOOP (U := (Value × Value × Int)) (S := Int) ((s10 : Value), (s21 : Value), x12_3) (fun N_15 s_16 w_17 => B_slices_Equal_int64_int64_4 (s10 : Value) (s21 : Value) x12_3 s_16 N_15 (fun (v_9 : (Unit)) w_10 => ∀ _j_11 : Nat → Value, K true w_10) (fun (v_12 : (Bool × Unit)) w_13 => ∀ _j_14 : Nat → Value, K v_12.1 w_13) w_17) (0 : Int) w)))))))

theorem eq_slices_Equal_int64_int64 (s10 : Value) (s21 : Value) (w : World) (K : Bool → World → Prop) :
    W Try.prog ty O_slices_Equal_int64_int64_1 (bodyOf Try.f133) (fnPost Try.prog Try.f133.results.toList (.one .bool) K) (frame0 [s10, s21] 26) w = V_slices_Equal_int64_int64 s10 s21 w K := by
  kernel_rfl

theorem body_slices_Equal_int64_int64 : Try.f133.body = some (bodyOf Try.f133) := by kernel_rfl
theorem name_slices_Equal_int64_int64 : (Try.f133.name == "runtime.NumGoroutine") = false := by kernel_rfl

theorem walk_slices_Equal_int64_int64 (s10 : Value) (s21 : Value) {w : World} {K : Bool → World → Prop} (h : V_slices_Equal_int64_int64 s10 s21 w K) : Fc Try.prog 133 #[s10, s21] w (.one .bool) K :=
  fn_ok follows O_slices_Equal_int64_int64_1_ok Try.func133 name_slices_Equal_int64_int64 body_slices_Equal_int64_int64 Try.ntmps133 [s10, s21] (Eq.mpr (eq_slices_Equal_int64_int64 s10 s21 w K) h)

-- uses S2Sl
theorem c_slices_Equal_int64_int64 {s t : Value} {l m : List Int} {w : World} {K : Bool → World → Prop} (hl : SlI w s l) (hm : SlI w t m) (hK : ∀ w', Below w.heap.size w w' → K (decide (l = m)) w') :
    Fc Try.prog F_slices_Equal_int64_int64 #[s, t] w (.one .bool) K := by
  refine walk_slices_Equal_int64_int64 _ _ (lenI hl (lenI hm ⟨fun hne => ?_, fun he => lenI hl ?_⟩))
  · have := hK w (Below.refl _ _)
    rwa [decide_eq_false (fun h : l = m => ne_t hne (by rw [h]))] at this
  have he := ne_f he
  have hll := hl.len
  refine lp (fun i w' => Below w.heap.size w w' ∧ ∃ k : Nat, i = k ∧ k ≤ l.length ∧ ∀ j, j < k → l.getD j 0 = m.getD j 0) (fun i _ => (l.length - i).toNat) ⟨Below.refl _ _, 0, rfl, by omega, fun j hj => absurd hj (by omega)⟩ ?_
  rintro t' w1 N ⟨q1, k, hk, hkl, hall⟩ hN
  subst hk
  unfold B_slices_Equal_int64_int64_4
  refine ⟨fun hlt => ?_, fun hge => ?_⟩
  · have hlt := dec_t hlt
    intro w2 hd
    have q2 := q1.trans (hd.below w.heap.size)
    refine atI (hl.keep q2) (by omega) hlt (atI (hm.keep q2) (by omega) (by omega) ⟨fun hne => ?_, fun heq => ?_⟩)
    · intro _
      have := hK w2 q2
      rwa [decide_eq_false (fun h : l = m => ne_t hne (by rw [h]))] at this
    · have heq := ne_f heq
      rw [Int.toNat_natCast] at heq
      rw [wrap_small (by omega) (by omega)]
      refine hN _ _ ⟨q2, k + 1, by omega, by omega, fun j hj => ?_⟩ (by omega)
      by_cases hjk : j < k
      · exact hall j hjk
      · have : j = k := by omega
        subst this; exact heq
  · have hge := dec_f hge
    have : k = l.length := by omega
    subst this
    intro _
    have := hK w1 q1
    have hlm : l = m := by
      apply List.ext_getElem (by omega)
      intro j h1 h2
      have := hall j h1
      simpa [List.getD, h1, h2] using this
    rwa [decide_eq_true hlm] at this

end Go.Proofs.Ytkadckhealbdaaa

/- The reading of impl_newTracer, and its contract. No condition. -/
namespace Go.Proofs.Ytkadckhealbdaaa
open Go Go.RowKit Eng Mem
set_option linter.unusedVariables false
set_option maxRecDepth 100000
def B_impl_newTracer_8 (x0 : Value) (y1 : Value) (t7 : Value) (i8 : Int) (x38 : Int) (x39 : Int) (x45 : Int) (x46 : Int) (N : (Value × Value × Value × Int × Int × Int × Int) → Int → World → Prop) (D2 : (Value × Value × Value × Int × Int × Unit) → World → Prop) (w : World) : Prop :=
  (((decide (x46 < x45)) = true → (∀ w_18, Drew w w_18 → (NilOk t7 ∧ (QAll Try.prog (Instr.fieldAt 123 t7 3) .any fun (x60_19 : Value) => (QAll Try.prog (Instr.indexAt 121 x60_19 (.int .i64 i8)) .any fun (x61_20 : Value) => (Fc Try.prog 134 #[x0, (.int .i64 i8)] w_18 (.one .any) fun (x54_22 : Value) w_21 => (Fc Try.prog 134 #[y1, (.int .i64 x46)] w_21 (.one .any) fun (x57_24 : Value) w_23 => (Fc Try.prog 133 #[x54_22, x57_24] w_23 (.one .bool) fun (x58_26 : Bool) w_25 => (QAll Try.prog (Instr.indexAt 120 x61_20 (.int .i64 x46)) .any fun (x62_27 : Value) => (PrU Try.prog (Instr.storeAt 4 x62_27 (.bool x58_26)) w_25 fun w_28 => N ((x0 : Value), (y1 : Value), (t7 : Value), i8, x38, x39, x45) (IntKind.i64.wrap (x46 + (1 : Int))) w_28)))))))))) ∧ ((decide (x46 < x45)) = false → D2 ((x0 : Value), (y1 : Value), (t7 : Value), x38, x39, ()) w))

abbrev L_impl_newTracer_8_e2 : List Slot := [.k .any, .k .any, .junk, .junk, .junk, .junk, .junk, .k .any, .junk, .junk, .junk, .junk, .junk, .junk, .junk, .junk, .junk, .junk, .junk, .junk, .junk, .junk, .junk, .junk, .junk, .junk, .junk, .junk, .junk, .junk, .junk, .junk, .junk, .junk, .junk, .junk, .junk, .junk, .k (.int .i64), .k (.int .i64), .junk, .junk, .junk, .junk, .junk, .junk, .junk, .junk, .junk, .junk, .junk, .junk, .junk, .junk, .junk, .junk, .junk, .junk, .junk, .junk, .junk, .junk, .junk, .junk, .junk, .junk]

abbrev L_impl_newTracer_8_sp : List Slot := [.k .any, .k .any, .junk, .junk, .junk, .junk, .junk, .k .any, .k (.int .i64), .junk, .junk, .junk, .junk, .junk, .junk, .junk, .junk, .junk, .junk, .junk, .junk, .junk, .junk, .junk, .junk, .junk, .junk, .junk, .junk, .junk, .junk, .junk, .junk, .junk, .junk, .junk, .junk, .junk, .k (.int .i64), .k (.int .i64), .junk, .junk, .junk, .junk, .junk, .k (.int .i64), .k (.int .i64), .junk, .junk, .junk, .junk, .junk, .junk, .junk, .junk, .junk, .junk, .junk, .junk, .junk, .junk, .junk, .junk, .junk, .junk, .junk]
abbrev L_impl_newTracer_8_ex : List (Nat × List Slot) := [(2, L_impl_newTracer_8_e2)]
abbrev L_impl_newTracer_8_rt : List Slot := [.junk, .junk, .junk, .junk, .junk, .junk, .junk, .junk, .junk, .junk, .junk, .junk, .junk, .junk, .junk, .junk, .junk, .junk, .junk, .junk, .junk, .junk, .junk, .junk, .junk, .junk, .junk, .junk, .junk, .junk, .junk, .junk, .junk, .junk, .junk, .junk, .junk, .junk, .junk, .junk, .junk, .junk, .junk, .junk, .junk, .junk, .junk, .junk, .junk, .junk, .junk, .junk, .junk, .junk, .junk, .junk, .junk, .junk, .junk, .junk, .junk, .junk, .junk, .junk, .junk, .junk]

def L_impl_newTracer_8_b (Φ : Post) (u : (Value × Value × Value × Int × Int × Int × Int)) (N : (Value × Value × Value × Int × Int × Int × Int) → Int → World → Prop) (s : Int) (w : World) : Prop :=
  B_impl_newTracer_8 u.1 u.2.1 u.2.2.1 u.2.2.2.1 u.2.2.2.2.1 u.2.2.2.2.2.1 u.2.2.2.2.2.2 s N (fun v w => ∀ j : Nat → Value, Φ (.exit 2) (mkT j 0 L_impl_newTracer_8_e2 v) w) w

theorem L_impl_newTracer_8_eq (j : Nat → Value) (u : (Value × Value × Value × Int × Int × Int × Int)) (s : Int) (N : (Value × Value × Value × Int × Int × Int × Int) → Int → World → Prop) (D2 : (Value × Value × Value × Int × Int × Unit) → World → Prop) (R : (Unit) → World → Prop) (w : World) :
    W Try.prog ty (fun _ _ _ _ => False) (loopAt Try.f119 8) (loopPost L_impl_newTracer_8_sp [(2, (⟨L_impl_newTracer_8_e2, D2⟩ : Door))] ⟨L_impl_newTracer_8_rt, R⟩ (fun v w => N ((fun v => (v.1, v.2.1, v.2.2.1, v.2.2.2.1, v.2.2.2.2.1, v.2.2.2.2.2.1, v.2.2.2.2.2.2.1)) v) ((fun v => v.2.2.2.2.2.2.2.1) v) w)) (mkT j 0 L_impl_newTracer_8_sp ((fun u s => (u.1, u.2.1, u.2.2.1, u.2.2.2.1, u.2.2.2.2.1, u.2.2.2.2.2.1, u.2.2.2.2.2.2, s, ())) u s)) w =
    B_impl_newTracer_8 u.1 u.2.1 u.2.2.1 u.2.2.2.1 u.2.2.2.2.1 u.2.2.2.2.2.1 u.2.2.2.2.2.2 s N D2 w := by
  kernel_rfl

def O_impl_newTracer_1 : Code → Post → List SV → World → Prop :=
  orc 8 (loopAt Try.f119 8) L_impl_newTracer_8_sp (fun Φ fr w => LOOP (U := (Value × Value × Value × Int × Int × Int × Int)) (S := Int) ((fun v => (v.1, v.2.1, v.2.2.1, v.2.2.2.1, v.2.2.2.2.1, v.2.2.2.2.2.1, v.2.2.2.2.2.2.1)) (extT L_impl_newTracer_8_sp fr)) (L_impl_newTracer_8_b Φ ((fun v => (v.1, v.2.1, v.2.2.1, v.2.2.2.1, v.2.2.2.2.1, v.2.2.2.2.2.1, v.2.2.2.2.2.2.1)) (extT L_impl_newTracer_8_sp fr))) ((fun v => v.2.2.2.2.2.2.2.1) (extT L_impl_newTracer_8_sp fr)) w) (fun _ _ _ _ => False)

theorem O_impl_newTracer_1_ok : Sound Try.prog O_impl_newTracer_1 :=
  orc_ok (sound_none _) fun Φ fr w hs h => loop_ok (ty := ty) follows (sound_none _) L_impl_newTracer_8_sp (fun v => (v.1, v.2.1, v.2.2.1, v.2.2.2.1, v.2.2.2.2.1, v.2.2.2.2.2.1, v.2.2.2.2.2.2.1)) (fun v => v.2.2.2.2.2.2.2.1) (fun u s => (u.1, u.2.1, u.2.2.1, u.2.2.2.1, u.2.2.2.2.1, u.2.2.2.2.2.1, u.2.2.2.2.2.2, s, ())) (fun _ => rfl) L_impl_newTracer_8_ex L_impl_newTracer_8_rt (body := L_impl_newTracer_8_b Φ) (fun j u s w N hb => by
    have e := L_impl_newTracer_8_eq j u s N (doorOf Φ (.exit 2) L_impl_newTracer_8_e2).D (doorOf Φ .ret L_impl_newTracer_8_rt).D w
    exact Eq.mpr e hb) hs h

def B_impl_newTracer_5 (x0 : Value) (y1 : Value) (t7 : Value) (x38 : Int) (x39 : Int) (N : (Value × Value × Value × Int) → Int → World → Prop) (D0 : (Value × Unit) → World → Prop) (w : World) : Prop :=
  (((decide (x39 < x38)) = true → (NilOk y1 ∧ (QAll Try.prog (Instr.fieldAt 25 y1 0) .any fun (x44_16 : Value) => (QSub Try.prog (Instr.loadAt 2 x44_16) w (.int .i64) fun (x45_17 : Int) => (At (loopAt Try.f119 8) (loopAt Try.f119 8) (LOOP (U := (Value × Value × Value × Int × Int × Int × Int)) (S := Int) ((x0 : Value), (y1 : Value), (t7 : Value), x39, x38, x39, x45_17) (fun N_33 s_34 w_35 => B_impl_newTracer_8 (x0 : Value) (y1 : Value) (t7 : Value) x39 x38 x39 x45_17 s_34 N_33 (fun (v_30 : (Value × Value × Value × Int × Int × Unit)) w_31 => ∀ _j_32 : Nat → Value, N ((v_30.1 : Value), (v_30.2.1 : Value), (v_30.2.2.1 : Value), v_30.2.2.2.1) (IntKind.i64.wrap (v_30.2.2.2.2.1 + (1 : Int))) w_31) w_35) (0 : Int) w)))))) ∧ ((decide (x39 < x38)) = false → D0 ((t7 : Value), ()) w))

abbrev L_impl_newTracer_5_e0 : List Slot := [.junk, .junk, .junk, .junk, .junk, .junk, .junk, .k .any, .junk, .junk, .junk, .junk, .junk, .junk, .junk, .junk, .junk, .junk, .junk, .junk, .junk, .junk, .junk, .junk, .junk, .junk, .junk, .junk, .junk, .junk, .junk, .junk, .junk, .junk, .junk, .junk, .junk, .junk, .junk, .junk, .junk, .junk, .junk, .junk, .junk, .junk, .junk, .junk, .junk, .junk, .junk, .junk, .junk, .junk, .junk, .junk, .junk, .junk, .junk, .junk, .junk, .junk, .junk, .junk, .junk, .junk]

abbrev L_impl_newTracer_5_sp : List Slot := [.k .any, .k .any, .junk, .junk, .junk, .junk, .junk, .k .any, .junk, .junk, .junk, .junk, .junk, .junk, .junk, .junk, .junk, .junk, .junk, .junk, .junk, .junk, .junk, .junk, .junk, .junk, .junk, .junk, .junk, .junk, .junk, .junk, .junk, .junk, .junk, .junk, .junk, .junk, .k (.int .i64), .k (.int .i64), .junk, .junk, .junk, .junk, .junk, .junk, .junk, .junk, .junk, .junk, .junk, .junk, .junk, .junk, .junk, .junk, .junk, .junk, .junk, .junk, .junk, .junk, .junk, .junk, .junk, .junk]
abbrev L_impl_newTracer_5_ex : List (Nat × List Slot) := [(0, L_impl_newTracer_5_e0)]
abbrev L_impl_newTracer_5_rt : List Slot := [.junk, .junk, .junk, .junk, .junk, .junk, .junk, .junk, .junk, .junk, .junk, .junk, .junk, .junk, .junk, .junk, .junk, .junk, .junk, .junk, .junk, .junk, .junk, .junk, .junk, .junk, .junk, .junk, .junk, .junk, .junk, .junk, .junk, .junk, .junk, .junk, .junk, .junk, .junk, .junk, .junk, .junk, .junk, .junk, .junk, .junk, .junk, .junk, .junk, .junk, .junk, .junk, .junk, .junk, .junk, .junk, .junk, .junk, .junk, .junk, .junk, .junk, .junk, .junk, .junk, .junk]

def L_impl_newTracer_5_b (Φ : Post) (u : (Value × Value × Value × Int)) (N : (Value × Value × Value × Int) → Int → World → Prop) (s : Int) (w : World) : Prop :=
  B_impl_newTracer_5 u.1 u.2.1 u.2.2.1 u.2.2.2 s N (fun v w => ∀ j : Nat → Value, Φ (.exit 0) (mkT j 0 L_impl_newTracer_5_e0 v) w) w

theorem L_impl_newTracer_5_eq (j : Nat → Value) (u : (Value × Value × Value × Int)) (s : Int) (N : (Value × Value × Value × Int) → Int → World → Prop) (D0 : (Value × Unit) → World → Prop) (R : (Unit) → World → Prop) (w : World) :
    W Try.prog ty O_impl_newTracer_1 (loopAt Try.f119 5) (loopPost L_impl_newTracer_5_sp [(0, (⟨L_impl_newTracer_5_e0, D0⟩ : Door))] ⟨L_impl_newTracer_5_rt, R⟩ (fun v w => N ((fun v => (v.1, v.2.1, v.2.2.1, v.2.2.2.1)) v) ((fun v => v.2.2.2.2.1) v) w)) (mkT j 0 L_impl_newTracer_5_sp ((fun u s => (u.1, u.2.1, u.2.2.1, u.2.2.2, s, ())) u s)) w =
    B_impl_newTracer_5 u.1 u.2.1 u.2.2.1 u.2.2.2 s N D0 w := by
  kernel_rfl

def O_impl_newTracer_2 : Code → Post → List SV → World → Prop :=
  orc 5 (loopAt Try.f119 5) L_impl_newTracer_5_sp (fun Φ fr w => LOOP (U := (Value × Value × Value × Int)) (S := Int) ((fun v => (v.1, v.2.1, v.2.2.1, v.2.2.2.1)) (extT L_impl_newTracer_5_sp fr)) (L_impl_newTracer_5_b Φ ((fun v => (v.1, v.2.1, v.2.2.1, v.2.2.2.1)) (extT L_impl_newTracer_5_sp fr))) ((fun v => v.2.2.2.2.1) (extT L_impl_newTracer_5_sp fr)) w) O_impl_newTracer_1

theorem O_impl_newTracer_2_ok : Sound Try.prog O_impl_newTracer_2 :=
  orc_ok O_impl_newTracer_1_ok fun Φ fr w hs h => loop_ok (ty := ty) follows O_impl_newTracer_1_ok L_impl_newTracer_5_sp (fun v => (v.1, v.2.1, v.2.2.1, v.2.2.2.1)) (fun v => v.2.2.2.2.1) (fun u s => (u.1, u.2.1, u.2.2.1, u.2.2.2, s, ())) (fun _ => rfl) L_impl_newTracer_5_ex L_impl_newTracer_5_rt (body := L_impl_newTracer_5_b Φ) (fun j u s w N hb => by
    have e := L_impl_newTracer_5_eq j u s N (doorOf Φ (.exit 0) L_impl_newTracer_5_e0).D (doorOf Φ .ret L_impl_newTracer_5_rt).D w
    exact Eq.mpr e hb) hs h

def V_impl_newTracer (x0 : Value) (y1 : Value) (order2 : Value) (w : World) (K : Value → World → Prop) : Prop :=
  (∀ w_1, Drew w w_1 → (NilOk x0 ∧ (QAll Try.prog (Instr.fieldAt 25 x0 0) .any fun (x12_2 : Value) => (QSub Try.prog (Instr.loadAt 2 x12_2) w_1 (.int .i64) fun (x13_3 : Int) => (NilOk y1 ∧ (QAll Try.prog (Instr.fieldAt 25 y1 0) .any fun (x16_4 : Value) => (QSub Try.prog (Instr.loadAt 2 x16_4) w_1 (.int .i64) fun (x17_5 : Int) => (((x13_3 != x17_5) = true → K ((.pointer none) : Value) w_1) ∧ ((x13_3 != x17_5) = false → (NilOk x0 ∧ (QAll Try.prog (Instr.fieldAt 25 x0 1) .any fun (x22_6 : Value) => (QSub Try.prog (Instr.loadAt 2 x22_6) w_1 (.int .i64) fun (x23_7 : Int) => (NilOk y1 ∧ (QAll Try.prog (Instr.fieldAt 25 y1 1) .any fun (x26_8 : Value) => (QSub Try.prog (Instr.loadAt 2 x26_8) w_1 (.int .i64) fun (x27_9 : Int) => (((x23_7 != x27_9) = true → K ((.pointer none) : Value) w_1) ∧ ((x23_7 != x27_9) = false → (Pr Try.prog (Instr.build 123 #[(0, x0), (1, y1), (2, order2)]) w_1 (.one .any) fun (x33_11 : Value) w_10 => (Pr Try.prog (Instr.box 123 x33_11) w_10 (.one .any) fun (x34_13 : Value) w_12 => (NilOk x0 ∧ (QAll Try.prog (Instr.fieldAt 25 x0 0) .any fun (x37_14 : Value) => (QSub Try.prog (Instr.loadAt 2 x37_14) w_12 (.int .i64) fun (x38_15 : Int) => (At (loopAt Try.f119 5) (loopAt Try.f119 5) (LOOP (U := (Value × Value × Value × Int)) (S := Int) ((x0 : Value), (y1 : Value), (x34_13 : Value), x38_15) (fun N_39 s_40 w_41 => B_impl_newTracer_5 (x0 : Value) (y1 : Value) (x34_13 : Value) x38_15 s_40 N_39 (fun (v_36 : (Value × Unit)) w_37 => ∀ _j_38 : Nat → Value, K (v_36.1 : Value) w_37) w_41) (0 : Int) w_12))))))))))))))))))))))))

theorem eq_impl_newTracer (x0 : Value) (y1 : Value) (order2 : Value) (w : World) (K : Value → World → Prop) :
    W Try.prog ty O_impl_newTracer_2 (bodyOf Try.f119) (fnPost Try.prog Try.f119.results.toList (.one .any) K) (frame0 [x0, y1, order2] 66) w = V_impl_newTracer x0 y1 order2 w K := by
  kernel_rfl

theorem body_impl_newTracer : Try.f119.body = some (bodyOf Try.f119) := by kernel_rfl
theorem name_impl_newTracer : (Try.f119.name == "runtime.NumGoroutine") = false := by kernel_rfl

theorem walk_impl_newTracer (x0 : Value) (y1 : Value) (order2 : Value) {w : World} {K : Value → World → Prop} (h : V_impl_newTracer x0 y1 order2 w K) : Fc Try.prog 119 #[x0, y1, order2] w (.one .any) K :=
  fn_ok follows O_impl_newTracer_2_ok Try.func119 name_impl_newTracer body_impl_newTracer Try.ntmps119 [x0, y1, order2] (Eq.mpr (eq_impl_newTracer x0 y1 order2 w K) h)

-- uses S9IsoM
theorem c_impl_newTracer {px py po : Value} {x y : Col} {ord : List Int} {w : World} {K : Value → World → Prop} (hx : x.Ok) (hy : y.Ok) (Ix : x.Is) (Iy : y.Is) (ax : ColAt w px x) (ay : ColAt w py y) (ho : SlI w po ord)
    (hno : ¬ (x.n = y.n ∧ x.k = y.k) → ∀ w', Below w.heap.size w w' → K (.pointer none) w')
    (hyes : x.n = y.n → x.k = y.k → ∀ w' b S, w.heap.size ≤ b → Below w.heap.size w w' → Blk w' b (trV px py po S) tTr → (∀ i j : Nat, i < x.n.toNat → j < x.n.toNat → S i j = sameD x y i j) → K (ptr b 0) w') :
    Fc Try.prog F_impl_newTracer #[px, py, po] w (.one .any) K := by
  have n0 := Ix.1; have n1 := Ix.2.1; have k0 := Ix.2.2.1; have k4 := Ix.2.2.2.1
  refine walk_impl_newTracer _ _ _ ?_
  intro w1 hd
  have q1 := hd.below w.heap.size
  have ax1 := ax.keep q1
  have ay1 := ay.keep q1
  refine ⟨ax.nonnil, col_n ax1 ⟨ay.nonnil, col_n ay1 ⟨fun hne => hno (fun h => ne_t hne h.1) w1 q1, fun hn => ⟨ax.nonnil, col_k ax1 ⟨ay.nonnil, col_k ay1 ⟨fun hne => hno (fun h => ne_t hne h.2) w1 q1, fun hk => ?_⟩⟩⟩⟩⟩⟩
  have hn := ne_f hn; have hk := ne_f hk
  obtain ⟨px', rfl⟩ := ax.isPtr
  obtain ⟨py', rfl⟩ := ay.isPtr
  obtain ⟨po', ln, cp, rfl, _⟩ := ho.sl
  refine ⟨_, w1, buildTr px' py' po' ln cp w1, box _ rfl fun b w2 m2 => ⟨ax.nonnil, col_n (ax1.keep m2.below) ?_⟩⟩
  have e2 := m2.here; have s2 := m2.size; have hs1 := q1.size
  have q2 := q1.trans (m2.below.mono hs1)
  refine lp (fun s w' => Below w.heap.size w w' ∧ ∃ (i : Nat) (S : Nat → Nat → Bool), s = i ∧ i ≤ x.n.toNat ∧ Blk w' b (trV (.pointer (some px')) (.pointer (some py')) (.slice po' ln cp) S) tTr ∧ ∀ a c : Nat, a < i → c < x.n.toNat → S a c = sameD x y a c) (fun s _ => (17 - s).toNat)
    ⟨q2, 0, _, rfl, by omega, m2.at_, fun a c h => absurd h (by omega)⟩ ?_
  rintro t w3 N ⟨q3, i, S, hi, hin, h3, hS⟩ hN
  subst hi
  unfold B_impl_newTracer_5
  refine ⟨fun hlt => ⟨ay.nonnil, col_n (ay.keep q3) ?_⟩, fun hge => ?_⟩
  · have hlt := dec_t hlt
    refine lp (fun s w' => Below w.heap.size w w' ∧ ∃ (j : Nat) (S : Nat → Nat → Bool), s = j ∧ j ≤ x.n.toNat ∧ Blk w' b (trV (.pointer (some px')) (.pointer (some py')) (.slice po' ln cp) S) tTr ∧ ∀ a c : Nat, (a < i ∨ a = i ∧ c < j) → c < x.n.toNat → S a c = sameD x y a c) (fun s _ => (17 - s).toNat)
      ⟨q3, 0, S, rfl, by omega, h3, fun a c h hc => hS a c (by omega) hc⟩ ?_
    rintro t w4 N' ⟨q4, j, S, hj, hjn, h4, hS⟩ hN'
    subst hj
    unfold B_impl_newTracer_8
    refine ⟨fun hlt2 => ?_, fun hge2 => ?_⟩
    · have hlt2 := dec_t hlt2
      intro w5 hd5
      have b45 := hd5.below w4.heap.size
      have q5 := q4.trans (hd5.below w.heap.size)
      refine ⟨.inl ⟨_, rfl⟩, fldp tr3 (ixRq yR289 (by omega) (by omega) (c_impl_Colouring_degreesAt hx Ix (ax.keep q5) (by omega) (by omega) fun u w6 b6 hb6 q6 o6 => ?_))⟩
      have q56 := q5.trans (q6.mono q5.size)
      refine c_impl_Colouring_degreesAt hy Iy (ay.keep q56) (by omega) (by omega) fun u' w7 b7 hb7 q7 o7 => ?_
      have q57 := q56.trans (q7.mono q56.size)
      have l6 := degK_len x i x.n.toNat
      have l7 := degK_len y j y.n.toNat
      have ky := Iy.2.2.2.1
      refine c_slices_Equal_int64_int64 (own_slI (o6.keep q7) (by omega)) (own_slI o7 (by omega)) fun w8 q8 => ?_
      have q58 := q57.trans (q8.mono q57.size)
      rw [sameD_eq hk]
      have b48 : Below w4.heap.size w4 w8 := ((b45.trans (q6.mono b45.size)).trans (q7.mono (by have := b45.size; have := q6.size; omega))).trans (q8.mono (by have := b45.size; have := q6.size; have := q7.size; omega))
      have h8 : Blk w8 b (trV (.pointer (some px')) (.pointer (some py')) (.slice po' ln cp) S) tTr := below_at b48 h4 (at_lt h4)
      refine ixRp yR17 (by omega) (by omega) (st yb h8 (by rw [trV_len, Int.toNat_natCast, Int.toNat_natCast]; omega) rfl fun w9 m9 s9 h9 => ?_)
      rw [Int.toNat_natCast, Int.toNat_natCast, Nat.zero_add, trV_set _ _ _ _ _ (by omega) (by omega)] at h9
      rw [wrap_small (by omega) (by omega)]
      have hz := q58.size
      refine hN' _ _ ⟨q58.trans (m9.below (by omega) (by simp; omega)), j + 1, _, by omega, by omega, h9, fun a c hac hc => ?_⟩ (by omega)
      by_cases he : a = i ∧ c = j
      · rw [if_pos he, he.1, he.2]
      · rw [if_neg he]; exact hS a c (by omega) hc
    · have hge2 := dec_f hge2
      intro _
      try dsimp only
      rw [wrap_small (by omega) (by omega)]
      exact hN _ _ ⟨q4, i + 1, S, by omega, by omega, h4, fun a c ha hc => hS a c (by omega) hc⟩ (by omega)
  · have hge := dec_f hge
    have : i = x.n.toNat := by omega
    subst this
    intro _
    exact hyes hn hk w3 b S (by omega) q3 h3 fun i j hi hj => hS i j hi hj

end Go.Proofs.Ytkadckhealbdaaa

/- The reading of impl_tracer_all, and its contract. No condition. -/
namespace Go.Proofs.Ytkadckhealbdaaa
open Go Go.RowKit Eng Mem
set_option linter.unusedVariables false
set_option maxRecDepth 100000
def B_impl_tracer_all_11 (t0 : Value) (p1 : Value) (with2 : Value) (i8 : Int) (j9 : Int) (x38 : Int) (x39 : Int) (x51 : Value) (x52 : Int) (fits10 : Bool) (x53 : Int) (N : (Value × Value × Value × Int × Int × Int × Int × Value × Int) → (Bool × Int) → World → Prop) (D2 : (Value × Value × Value × Int × Int × Bool × Int × Int × Unit) → World → Prop) (w : World) : Prop :=
  (((decide (x53 < x52)) = true → (QAll Try.prog (Instr.indexAt 31 x51 (.int .i64 x53)) .any fun (x56_20 : Value) => (QSub Try.prog (Instr.loadAt 2 x56_20) w (.int .i64) fun (x57_21 : Int) => (∀ w_22, Drew w w_22 → (((x57_21 == j9) = true → D2 ((t0 : Value), (p1 : Value), (with2 : Value), i8, j9, false, x38, x39, ()) w_22) ∧ ((x57_21 == j9) = false → (NilOk t0 ∧ (QAll Try.prog (Instr.fieldAt 123 t0 0) .any fun (x64_23 : Value) => (QSub Try.prog (Instr.loadAt 77 x64_23) w_22 .any fun (x65_24 : Value) => (NilOk t0 ∧ (QAll Try.prog (Instr.fieldAt 123 t0 2) .any fun (x68_25 : Value) => (QSub Try.prog (Instr.loadAt 31 x68_25) w_22 .any fun (x69_26 : Value) => (QAll Try.prog (Instr.indexAt 31 x69_26 (.int .i64 x53)) .any fun (x71_27 : Value) => (QSub Try.prog (Instr.loadAt 2 x71_27) w_22 (.int .i64) fun (x72_28 : Int) => (NilOk t0 ∧ (QAll Try.prog (Instr.fieldAt 123 t0 1) .any fun (x77_29 : Value) => (QSub Try.prog (Instr.loadAt 77 x77_29) w_22 .any fun (x78_30 : Value) => (Fc Try.prog 89 #[x65_24, (.int .i64 x72_28), (.int .i64 i8)] w_22 (.one (.int .i64)) fun (x74_32 : Int) w_31 => (Keeps w_22 w_31 ((Fc Try.prog 89 #[x78_30, (.int .i64 x57_21), (.int .i64 j9)] w_31 (.one (.int .i64)) fun (x81_34 : Int) w_33 => (Keeps w_22 w_33 ((((x74_32 != x81_34) = true → D2 ((t0 : Value), (p1 : Value), (with2 : Value), i8, j9, false, x38, x39, ()) w_33) ∧ ((x74_32 != x81_34) = false → N ((t0 : Value), (p1 : Value), (with2 : Value), i8, j9, x38, x39, (x51 : Value), x52) (fits10, (IntKind.i64.wrap (x53 + (1 : Int)))) w_33))))))))))))))))))))))))) ∧ ((decide (x53 < x52)) = false → D2 ((t0 : Value), (p1 : Value), (with2 : Value), i8, j9, fits10, x38, x39, ()) w))

abbrev L_impl_tracer_all_11_e2 : List Slot := [.k .any, .k .any, .k .any, .junk, .junk, .junk, .junk, .junk, .k (.int .i64), .k (.int .i64), .k .bool, .junk, .junk, .junk, .junk, .junk, .junk, .junk, .junk, .junk, .junk, .junk, .junk, .junk, .junk, .junk, .junk, .junk, .junk, .junk, .junk, .junk, .junk, .junk, .junk, .junk, .junk, .junk, .k (.int .i64), .k (.int .i64), .junk, .junk, .junk, .junk, .junk, .junk, .junk, .junk, .junk, .junk, .junk, .junk, .junk, .junk, .junk, .junk, .junk, .junk, .junk, .junk, .junk, .junk, .junk, .junk, .junk, .junk, .junk, .junk, .junk, .junk, .junk, .junk, .junk, .junk, .junk, .junk, .junk, .junk, .junk, .junk, .junk, .junk, .junk, .junk, .junk, .junk, .junk, .junk, .junk, .junk, .junk, .junk, .junk, .junk, .junk, .junk, .junk]

abbrev L_impl_tracer_all_11_sp : List Slot := [.k .any, .k .any, .k .any, .junk, .junk, .junk, .junk, .junk, .k (.int .i64), .k (.int .i64), .k .bool, .junk, .junk, .junk, .junk, .junk, .junk, .junk, .junk, .junk, .junk, .junk, .junk, .junk, .junk, .junk, .junk, .junk, .junk, .junk, .junk, .junk, .junk, .junk, .junk, .junk, .junk, .junk, .k (.int .i64), .k (.int .i64), .junk, .junk, .junk, .junk, .junk, .junk, .junk, .junk, .junk, .junk, .junk, .k .any, .k (.int .i64), .k (.int .i64), .junk, .junk, .junk, .junk, .junk, .junk, .junk, .junk, .junk, .junk, .junk, .junk, .junk, .junk, .junk, .junk, .junk, .junk, .junk, .junk, .junk, .junk, .junk, .junk, .junk, .junk, .junk, .junk, .junk, .junk, .junk, .junk, .junk, .junk, .junk, .junk, .junk, .junk, .junk, .junk, .junk, .junk, .junk]
abbrev L_impl_tracer_all_11_ex : List (Nat × List Slot) := [(2, L_impl_tracer_all_11_e2)]
abbrev L_impl_tracer_all_11_rt : List Slot := [.junk, .junk, .junk, .junk, .junk, .junk, .junk, .junk, .junk, .junk, .junk, .junk, .junk, .junk, .junk, .junk, .junk, .junk, .junk, .junk, .junk, .junk, .junk, .junk, .junk, .junk, .junk, .junk, .junk, .junk, .junk, .junk, .junk, .junk, .junk, .junk, .junk, .junk, .junk, .junk, .junk, .junk, .junk, .junk, .junk, .junk, .junk, .junk, .junk, .junk, .junk, .junk, .junk, .junk, .junk, .junk, .junk, .junk, .junk, .junk, .junk, .junk, .junk, .junk, .junk, .junk, .junk, .junk, .junk, .junk, .junk, .junk, .junk, .junk, .junk, .junk, .junk, .junk, .junk, .junk, .junk, .junk, .junk, .junk, .junk, .junk, .junk, .junk, .junk, .junk, .junk, .junk, .junk, .junk, .junk, .junk, .junk]

def L_impl_tracer_all_11_b (Φ : Post) (u : (Value × Value × Value × Int × Int × Int × Int × Value × Int)) (N : (Value × Value × Value × Int × Int × Int × Int × Value × Int) → (Bool × Int) → World → Prop) (s : (Bool × Int)) (w : World) : Prop :=
  B_impl_tracer_all_11 u.1 u.2.1 u.2.2.1 u.2.2.2.1 u.2.2.2.2.1 u.2.2.2.2.2.1 u.2.2.2.2.2.2.1 u.2.2.2.2.2.2.2.1 u.2.2.2.2.2.2.2.2 s.1 s.2 N (fun v w => ∀ j : Nat → Value, Φ (.exit 2) (mkT j 0 L_impl_tracer_all_11_e2 v) w) w

theorem L_impl_tracer_all_11_eq (j : Nat → Value) (u : (Value × Value × Value × Int × Int × Int × Int × Value × Int)) (s : (Bool × Int)) (N : (Value × Value × Value × Int × Int × Int × Int × Value × Int) → (Bool × Int) → World → Prop) (D2 : (Value × Value × Value × Int × Int × Bool × Int × Int × Unit) → World → Prop) (R : (Unit) → World → Prop) (w : World) :
    W Try.prog ty (fun _ _ _ _ => False) (loopAt Try.f121 11) (loopPost L_impl_tracer_all_11_sp [(2, (⟨L_impl_tracer_all_11_e2, D2⟩ : Door))] ⟨L_impl_tracer_all_11_rt, R⟩ (fun v w => N ((fun v => (v.1, v.2.1, v.2.2.1, v.2.2.2.1, v.2.2.2.2.1, v.2.2.2.2.2.2.1, v.2.2.2.2.2.2.2.1, v.2.2.2.2.2.2.2.2.1, v.2.2.2.2.2.2.2.2.2.1)) v) ((fun v => (v.2.2.2.2.2.1, v.2.2.2.2.2.2.2.2.2.2.1)) v) w)) (mkT j 0 L_impl_tracer_all_11_sp ((fun u s => (u.1, u.2.1, u.2.2.1, u.2.2.2.1, u.2.2.2.2.1, s.1, u.2.2.2.2.2.1, u.2.2.2.2.2.2.1, u.2.2.2.2.2.2.2.1, u.2.2.2.2.2.2.2.2, s.2, ())) u s)) w =
    B_impl_tracer_all_11 u.1 u.2.1 u.2.2.1 u.2.2.2.1 u.2.2.2.2.1 u.2.2.2.2.2.1 u.2.2.2.2.2.2.1 u.2.2.2.2.2.2.2.1 u.2.2.2.2.2.2.2.2 s.1 s.2 N D2 w := by
  kernel_rfl

def O_impl_tracer_all_1 : Code → Post → List SV → World → Prop :=
  orc 11 (loopAt Try.f121 11) L_impl_tracer_all_11_sp (fun Φ fr w => LOOP (U := (Value × Value × Value × Int × Int × Int × Int × Value × Int)) (S := (Bool × Int)) ((fun v => (v.1, v.2.1, v.2.2.1, v.2.2.2.1, v.2.2.2.2.1, v.2.2.2.2.2.2.1, v.2.2.2.2.2.2.2.1, v.2.2.2.2.2.2.2.2.1, v.2.2.2.2.2.2.2.2.2.1)) (extT L_impl_tracer_all_11_sp fr)) (L_impl_tracer_all_11_b Φ ((fun v => (v.1, v.2.1, v.2.2.1, v.2.2.2.1, v.2.2.2.2.1, v.2.2.2.2.2.2.1, v.2.2.2.2.2.2.2.1, v.2.2.2.2.2.2.2.2.1, v.2.2.2.2.2.2.2.2.2.1)) (extT L_impl_tracer_all_11_sp fr))) ((fun v => (v.2.2.2.2.2.1, v.2.2.2.2.2.2.2.2.2.2.1)) (extT L_impl_tracer_all_11_sp fr)) w) (fun _ _ _ _ => False)

theorem O_impl_tracer_all_1_ok : Sound Try.prog O_impl_tracer_all_1 :=
  orc_ok (sound_none _) fun Φ fr w hs h => loop_ok (ty := ty) follows (sound_none _) L_impl_tracer_all_11_sp (fun v => (v.1, v.2.1, v.2.2.1, v.2.2.2.1, v.2.2.2.2.1, v.2.2.2.2.2.2.1, v.2.2.2.2.2.2.2.1, v.2.2.2.2.2.2.2.2.1, v.2.2.2.2.2.2.2.2.2.1)) (fun v => (v.2.2.2.2.2.1, v.2.2.2.2.2.2.2.2.2.2.1)) (fun u s => (u.1, u.2.1, u.2.2.1, u.2.2.2.1, u.2.2.2.2.1, s.1, u.2.2.2.2.2.1, u.2.2.2.2.2.2.1, u.2.2.2.2.2.2.2.1, u.2.2.2.2.2.2.2.2, s.2, ())) (fun _ => rfl) L_impl_tracer_all_11_ex L_impl_tracer_all_11_rt (body := L_impl_tracer_all_11_b Φ) (fun j u s w N hb => by
    have e := L_impl_tracer_all_11_eq j u s N (doorOf Φ (.exit 2) L_impl_tracer_all_11_e2).D (doorOf Φ .ret L_impl_tracer_all_11_rt).D w
    exact Eq.mpr e hb) hs h

def B_impl_tracer_all_6 (t0 : Value) (p1 : Value) (with2 : Value) (i8 : Int) (x38 : Int) (x39 : Int) (N : (Value × Value × Value × Int × Int) → Int → World → Prop) (D0 : (Unit) → World → Prop) (R : (Bool × Unit) → World → Prop) (w : World) : Prop :=
  (((decide (x39 < x38)) = true → (NilOk t0 ∧ (QAll Try.prog (Instr.fieldAt 123 t0 3) .any fun (x46_15 : Value) => (QAll Try.prog (Instr.indexAt 121 x46_15 (.int .i64 i8)) .any fun (x47_16 : Value) => (QAll Try.prog (Instr.indexAt 120 x47_16 (.int .i64 x39)) .any fun (x48_17 : Value) => (QSub Try.prog (Instr.loadAt 4 x48_17) w .bool fun (x49_18 : Bool) => (((!x49_18) = true → N ((t0 : Value), (p1 : Value), (with2 : Value), i8, x38) (IntKind.i64.wrap (x39 + (1 : Int))) w) ∧ ((!x49_18) = false → (QAll Try.prog (Builtin.len_ #[31] 3 #[p1]) (.int .i64) fun (x52_19 : Int) => (At (loopAt Try.f121 11) (loopAt Try.f121 11) (LOOP (U := (Value × Value × Value × Int × Int × Int × Int × Value × Int)) (S := (Bool × Int)) ((t0 : Value), (p1 : Value), (with2 : Value), i8, x39, x38, x39, (p1 : Value), x52_19) (fun N_44 s_45 w_46 => B_impl_tracer_all_11 (t0 : Value) (p1 : Value) (with2 : Value) i8 x39 x38 x39 (p1 : Value) x52_19 s_45.1 s_45.2 N_44 (fun (v_35 : (Value × Value × Value × Int × Int × Bool × Int × Int × Unit)) w_36 => ∀ _j_37 : Nat → Value, ((v_35.2.2.2.2.2.1 = true → (Pr Try.prog (Instr.buildSlice 31 1 #[(0, (.int .i64 v_35.2.2.2.2.1))]) w_36 (.one .any) fun (x90_39 : Value) w_38 => (Pr Try.prog (Builtin.append_ #[31, 31] 31 #[v_35.2.1, x90_39]) w_38 (.one .any) fun (x91_41 : Value) w_40 => (Fc Try.prog 121 #[v_35.1, x91_41, v_35.2.2.1] w_40 (.one .bool) fun (x93_43 : Bool) w_42 => (((!x93_43) = true → R (false, ()) w_42) ∧ ((!x93_43) = false → N ((v_35.1 : Value), (v_35.2.1 : Value), (v_35.2.2.1 : Value), v_35.2.2.2.1, v_35.2.2.2.2.2.2.1) (IntKind.i64.wrap (v_35.2.2.2.2.2.2.2.1 + (1 : Int))) w_42)))))) ∧ (v_35.2.2.2.2.2.1 = false → N ((v_35.1 : Value), (v_35.2.1 : Value), (v_35.2.2.1 : Value), v_35.2.2.2.1, v_35.2.2.2.2.2.2.1) (IntKind.i64.wrap (v_35.2.2.2.2.2.2.2.1 + (1 : Int))) w_36))) w_46) (true, (0 : Int)) w))))))))))) ∧ ((decide (x39 < x38)) = false → D0 () w))

abbrev L_impl_tracer_all_6_e0 : List Slot := [.junk, .junk, .junk, .junk, .junk, .junk, .junk, .junk, .junk, .junk, .junk, .junk, .junk, .junk, .junk, .junk, .junk, .junk, .junk, .junk, .junk, .junk, .junk, .junk, .junk, .junk, .junk, .junk, .junk, .junk, .junk, .junk, .junk, .junk, .junk, .junk, .junk, .junk, .junk, .junk, .junk, .junk, .junk, .junk, .junk, .junk, .junk, .junk, .junk, .junk, .junk, .junk, .junk, .junk, .junk, .junk, .junk, .junk, .junk, .junk, .junk, .junk, .junk, .junk, .junk, .junk, .junk, .junk, .junk, .junk, .junk, .junk, .junk, .junk, .junk, .junk, .junk, .junk, .junk, .junk, .junk, .junk, .junk, .junk, .junk, .junk, .junk, .junk, .junk, .junk, .junk, .junk, .junk, .junk, .junk, .junk, .junk]

abbrev L_impl_tracer_all_6_sp : List Slot := [.k .any, .k .any, .k .any, .junk, .junk, .junk, .junk, .junk, .k (.int .i64), .junk, .junk, .junk, .junk, .junk, .junk, .junk, .junk, .junk, .junk, .junk, .junk, .junk, .junk, .junk, .junk, .junk, .junk, .junk, .junk, .junk, .junk, .junk, .junk, .junk, .junk, .junk, .junk, .junk, .k (.int .i64), .k (.int .i64), .junk, .junk, .junk, .junk, .junk, .junk, .junk, .junk, .junk, .junk, .junk, .junk, .junk, .junk, .junk, .junk, .junk, .junk, .junk, .junk, .junk, .junk, .junk, .junk, .junk, .junk, .junk, .junk, .junk, .junk, .junk, .junk, .junk, .junk, .junk, .junk, .junk, .junk, .junk, .junk, .junk, .junk, .junk, .junk, .junk, .junk, .junk, .junk, .junk, .junk, .junk, .junk, .junk, .junk, .junk, .junk, .junk]
abbrev L_impl_tracer_all_6_ex : List (Nat × List Slot) := [(0, L_impl_tracer_all_6_e0)]
abbrev L_impl_tracer_all_6_rt : List Slot := [.junk, .junk, .junk, .junk, .junk, .junk, .k .bool, .junk, .junk, .junk, .junk, .junk, .junk, .junk, .junk, .junk, .junk, .junk, .junk, .junk, .junk, .junk, .junk, .junk, .junk, .junk, .junk, .junk, .junk, .junk, .junk, .junk, .junk, .junk, .junk, .junk, .junk, .junk, .junk, .junk, .junk, .junk, .junk, .junk, .junk, .junk, .junk, .junk, .junk, .junk, .junk, .junk, .junk, .junk, .junk, .junk, .junk, .junk, .junk, .junk, .junk, .junk, .junk, .junk, .junk, .junk, .junk, .junk, .junk, .junk, .junk, .junk, .junk, .junk, .junk, .junk, .junk, .junk, .junk, .junk, .junk, .junk, .junk, .junk, .junk, .junk, .junk, .junk, .junk, .junk, .junk, .junk, .junk, .junk, .junk, .junk, .junk]

def L_impl_tracer_all_6_b (Φ : Post) (u : (Value × Value × Value × Int × Int)) (N : (Value × Value × Value × Int × Int) → Int → World → Prop) (s : Int) (w : World) : Prop :=
  B_impl_tracer_all_6 u.1 u.2.1 u.2.2.1 u.2.2.2.1 u.2.2.2.2 s N (fun v w => ∀ j : Nat → Value, Φ (.exit 0) (mkT j 0 L_impl_tracer_all_6_e0 v) w) (fun v w => ∀ j : Nat → Value, Φ .ret (mkT j 0 L_impl_tracer_all_6_rt v) w) w

theorem L_impl_tracer_all_6_eq (j : Nat → Value) (u : (Value × Value × Value × Int × Int)) (s : Int) (N : (Value × Value × Value × Int × Int) → Int → World → Prop) (D0 : (Unit) → World → Prop) (R : (Bool × Unit) → World → Prop) (w : World) :
    W Try.prog ty O_impl_tracer_all_1 (loopAt Try.f121 6) (loopPost L_impl_tracer_all_6_sp [(0, (⟨L_impl_tracer_all_6_e0, D0⟩ : Door))] ⟨L_impl_tracer_all_6_rt, R⟩ (fun v w => N ((fun v => (v.1, v.2.1, v.2.2.1, v.2.2.2.1, v.2.2.2.2.1)) v) ((fun v => v.2.2.2.2.2.1) v) w)) (mkT j 0 L_impl_tracer_all_6_sp ((fun u s => (u.1, u.2.1, u.2.2.1, u.2.2.2.1, u.2.2.2.2, s, ())) u s)) w =
    B_impl_tracer_all_6 u.1 u.2.1 u.2.2.1 u.2.2.2.1 u.2.2.2.2 s N D0 R w := by
  kernel_rfl

def O_impl_tracer_all_2 : Code → Post → List SV → World → Prop :=
  orc 6 (loopAt Try.f121 6) L_impl_tracer_all_6_sp (fun Φ fr w => LOOP (U := (Value × Value × Value × Int × Int)) (S := Int) ((fun v => (v.1, v.2.1, v.2.2.1, v.2.2.2.1, v.2.2.2.2.1)) (extT L_impl_tracer_all_6_sp fr)) (L_impl_tracer_all_6_b Φ ((fun v => (v.1, v.2.1, v.2.2.1, v.2.2.2.1, v.2.2.2.2.1)) (extT L_impl_tracer_all_6_sp fr))) ((fun v => v.2.2.2.2.2.1) (extT L_impl_tracer_all_6_sp fr)) w) O_impl_tracer_all_1

theorem O_impl_tracer_all_2_ok : Sound Try.prog O_impl_tracer_all_2 :=
  orc_ok O_impl_tracer_all_1_ok fun Φ fr w hs h => loop_ok (ty := ty) follows O_impl_tracer_all_1_ok L_impl_tracer_all_6_sp (fun v => (v.1, v.2.1, v.2.2.1, v.2.2.2.1, v.2.2.2.2.1)) (fun v => v.2.2.2.2.2.1) (fun u s => (u.1, u.2.1, u.2.2.1, u.2.2.2.1, u.2.2.2.2, s, ())) (fun _ => rfl) L_impl_tracer_all_6_ex L_impl_tracer_all_6_rt (body := L_impl_tracer_all_6_b Φ) (fun j u s w N hb => by
    have e := L_impl_tracer_all_6_eq j u s N (doorOf Φ (.exit 0) L_impl_tracer_all_6_e0).D (doorOf Φ .ret L_impl_tracer_all_6_rt).D w
    exact Eq.mpr e hb) hs h

def V_impl_tracer_all (t0 : Value) (p1 : Value) (with2 : Value) (w : World) (K : Bool → World → Prop) : Prop :=
  (QAll Try.prog (Builtin.len_ #[31] 3 #[p1]) (.int .i64) fun (x14_1 : Int) => (NilOk t0 ∧ (QAll Try.prog (Instr.fieldAt 123 t0 2) .any fun (x18_2 : Value) => (QSub Try.prog (Instr.loadAt 31 x18_2) w .any fun (x19_3 : Value) => (QAll Try.prog (Builtin.len_ #[31] 3 #[x19_3]) (.int .i64) fun (x20_4 : Int) => (((x14_1 == x20_4) = true → (callV Try.prog with2 #[p1] w (.one .bool) fun (x24_6 : Bool) w_5 => K x24_6 w_5)) ∧ ((x14_1 == x20_4) = false → (NilOk t0 ∧ (QAll Try.prog (Instr.fieldAt 123 t0 2) .any fun (x27_7 : Value) => (QSub Try.prog (Instr.loadAt 31 x27_7) w .any fun (x28_8 : Value) => (QAll Try.prog (Instr.indexAt 31 x28_8 (.int .i64 x14_1)) .any fun (x30_9 : Value) => (QSub Try.prog (Instr.loadAt 2 x30_9) w (.int .i64) fun (x31_10 : Int) => (NilOk t0 ∧ (QAll Try.prog (Instr.fieldAt 123 t0 1) .any fun (x34_11 : Value) => (QSub Try.prog (Instr.loadAt 77 x34_11) w .any fun (x35_12 : Value) => (NilOk x35_12 ∧ (QAll Try.prog (Instr.fieldAt 25 x35_12 0) .any fun (x37_13 : Value) => (QSub Try.prog (Instr.loadAt 2 x37_13) w (.int .i64) fun (x38_14 : Int) => (At (loopAt Try.f121 6) (loopAt Try.f121 6) (LOOP (U := (Value × Value × Value × Int × Int)) (S := Int) ((t0 : Value), (p1 : Value), (with2 : Value), x31_10, x38_14) (fun N_53 s_54 w_55 => B_impl_tracer_all_6 (t0 : Value) (p1 : Value) (with2 : Value) x31_10 x38_14 s_54 N_53 (fun (v_47 : (Unit)) w_48 => ∀ _j_49 : Nat → Value, K true w_48) (fun (v_50 : (Bool × Unit)) w_51 => ∀ _j_52 : Nat → Value, K v_50.1 w_51) w_55) (0 : Int) w))))))))))))))))))))

theorem eq_impl_tracer_all (t0 : Value) (p1 : Value) (with2 : Value) (w : World) (K : Bool → World → Prop) :
    W Try.prog ty O_impl_tracer_all_2 (bodyOf Try.f121) (fnPost Try.prog Try.f121.results.toList (.one .bool) K) (frame0 [t0, p1, with2] 97) w = V_impl_tracer_all t0 p1 with2 w K := by
  kernel_rfl

theorem body_impl_tracer_all : Try.f121.body = some (bodyOf Try.f121) := by kernel_rfl
theorem name_impl_tracer_all : (Try.f121.name == "runtime.NumGoroutine") = false := by kernel_rfl

theorem walk_impl_tracer_all (t0 : Value) (p1 : Value) (with2 : Value) {w : World} {K : Bool → World → Prop} (h : V_impl_tracer_all t0 p1 with2 w K) : Fc Try.prog 121 #[t0, p1, with2] w (.one .bool) K :=
  fn_ok follows O_impl_tracer_all_2_ok Try.func121 name_impl_tracer_all body_impl_tracer_all Try.ntmps121 [t0, p1, with2] (Eq.mpr (eq_impl_tracer_all t0 p1 with2 w K) h)

-- uses S9IsoM
theorem c_impl_tracer_all {b bp : Nat} {px py po f : Value} {x y : Col} {S : Nat → Nat → Bool} (J : World → Prop) (Q : List Int → World → Prop) (hx : x.Ok) (hy : y.Ok) (n0 : 1 ≤ x.n) (n1 : x.n ≤ 17) (hxy : x.n = y.n)
    (hS : ∀ i j : Nat, i < x.n.toNat → j < x.n.toNat → S i j = sameD x y i j)
    (hJ : ∀ w, J w → Blk w b (trV px py po S) tTr ∧ ColAt w px x ∧ ColAt w py y ∧ SlI w po (sel (fun _ => true) x.n.toNat))
    (hst : ∀ w w', J w → Mod [bp] w w' → J w')
    (hcall : ∀ (l : List Int) (w' : World) (K' : Bool → World → Prop), l.length = x.n.toNat → J w' → OwnC w' bp l → (∀ w'', Q l w'' → K' false w'') → callV Try.prog f #[vC bp l] w' (.one .bool) K') :
    ∀ (fuel : Nat) (p : List Int) (w : World) (K : Bool → World → Prop), p.length + fuel = x.n.toNat → J w → OwnC w bp p → (∀ e ∈ p, 0 ≤ e ∧ e < x.n) →
      (isoF x y fuel p = none → ∀ w', J w' → Mod [bp] w w' → OwnC w' bp p → K true w') → (∀ l, isoF x y fuel p = some l → ∀ w', Q l w' → K false w') →
      Fc Try.prog F_impl_tracer_all #[ptr b 0, vC bp p, f] w (.one .bool) K
  | fuel, p, w, K, hlen, hj, hp, hpe, hn, hs => by
    obtain ⟨hb, ax, ay, hord⟩ := hJ w hj
    have nn : NilOk (ptr b 0) := .inl ⟨_, rfl⟩
    have cord : ∀ {w'}, Blk w' b (trV px py po S) tTr → Cell w' (ptr b 2) po := fun h => by
      have := (blk_row h).get 2 (v := po) rfl
      simpa [padd, add_none] using this
    have cx : ∀ {w'}, Blk w' b (trV px py po S) tTr → Cell w' (ptr b 0) px := fun h => by
      have := (blk_row h).get 0 (v := px) rfl
      simpa [padd, add_none] using this
    have cy : ∀ {w'}, Blk w' b (trV px py po S) tTr → Cell w' (ptr b 1) py := fun h => by
      have := (blk_row h).get 1 (v := py) rfl
      simpa [padd, add_none] using this
    have hsl := selT_len x.n.toNat
    refine walk_impl_tracer_all _ _ _ (lenI hp.sl ⟨nn, fldp tr2 (ld (k := .any) y1SI (cord hb) (lenI hord ?_))⟩)
    rw [hsl]
    refine ⟨fun he => ?_, fun hne => ?_⟩
    · have he := eq_t he
      have hf : fuel = 0 := by omega
      subst hf
      exact hcall p w _ (by omega) hj hp fun w'' hq => hs p rfl w'' hq
    have hne := eq_f hne
    match fuel, hlen, hn, hs with
    | 0, hlen, _, _ => omega
    | fuel + 1, hlen, hn, hs =>
    have hkn : p.length < x.n.toNat := by omega
    refine ⟨nn, fldp tr2 (ld (k := .any) y1SI (cord hb) (atI hord (by omega) (by rw [hsl]; omega) ⟨nn, fldp tr1 (ld (k := .any) y1PC (cy hb) ⟨ay.nonnil, col_n ay ?_⟩)⟩))⟩
    rw [Int.toNat_natCast, selT_get hkn, ← hxy]
    rw [isoF_succ] at hn hs
    refine lp (fun s w' => ∃ j : Nat, s = j ∧ j ≤ x.n.toNat ∧ J w' ∧ Mod [bp] w w' ∧ OwnC w' bp p ∧ isoR x y fuel p j = isoR x y fuel p 0) (fun s _ => (17 - s).toNat) ⟨0, rfl, by omega, hj, Mod.refl _ _, hp, rfl⟩ ?_
    rintro t w2 N ⟨j, hjj, hjn, hj2, m2, hp2, hR⟩ hN
    subst hjj
    unfold B_impl_tracer_all_6
    obtain ⟨hb2, ax2, ay2, hord2⟩ := hJ w2 hj2
    refine ⟨fun hlt => ⟨nn, fldp tr3 (ixRq yR289 (by omega) (by omega) (ixRq yR17 (by omega) (by have := dec_t hlt; omega) ?_))⟩, fun hge => ?_⟩
    · have hlt := dec_t hlt
      have next : ∀ w', J w' → Mod [bp] w w' → OwnC w' bp p → isoR x y fuel p (j + 1) = isoR x y fuel p 0 → N (ptr b 0, vC bp p, f, (p.length : Int), x.n) (IntKind.i64.wrap ((j : Int) + 1)) w' := fun w' h1 h2 h3 h4 => by
        rw [wrap_small (by omega) (by omega)]
        exact hN _ _ ⟨j + 1, by omega, by omega, h1, h2, h3, h4⟩ (by omega)
      have hcell : Cell w2 (ptr b (0 + 3 + (p.length : Int).toNat * 17 + (j : Int).toNat * 1)) (.bool (S p.length j)) := by
        have := (blk_row hb2).get _ (trV_get px py po S (i := p.length) (j := j) (by omega) (by omega))
        simpa [padd, add_none] using this
      refine ld (k := .bool) yb hcell ⟨fun hno => ?_, fun hyes => ?_⟩
      · have hno := not_t hno
        rw [hS _ _ hkn (by omega)] at hno
        exact next w2 hj2 m2 hp2 (by rw [← hR]; exact (isoR_skip (by omega) (fun h => by rw [hno] at h; cases h.1)).symm)
      have hyes := not_f hyes
      rw [hS _ _ hkn (by omega)] at hyes
      refine lenI hp2.sl ?_
      refine lp (fun s w' => s.1 = true ∧ Below w2.heap.size w2 w' ∧ ∃ m : Nat, s.2 = m ∧ m ≤ p.length ∧ ∀ a : Nat, a < m → p.getD a 0 ≠ j ∧ colAt x a p.length = colAt y (p.getD a 0) j) (fun s _ => (17 - s.2).toNat) ⟨rfl, Below.refl _ _, 0, rfl, by omega, fun a h => absurd h (by omega)⟩ ?_
      rintro ⟨fits, t⟩ w3 N' ⟨hfit, q3, m, hm, hmp, hall⟩ hN'
      simp only at hfit hm
      subst hm; subst hfit
      unfold B_impl_tracer_all_11
      dsimp only
      have j3 : J w3 := hst _ _ hj2 (mod_of_below q3 _)
      have m3 : Mod [bp] w w3 := m2.trans (mod_of_below q3 _)
      have p3 := hp2.keep q3
      refine ⟨fun hlt2 => ?_, fun hge2 => ?_⟩
      · have hlt2 := dec_t hlt2
        have hmem : p.getD m 0 ∈ p := by
          have : m < p.length := by omega
          have e : p.getD m 0 = p[m] := by simp [List.getD, this]
          rw [e]; exact List.getElem_mem this
        have hto := hpe _ hmem
        have hbad : ¬ (p.getD m 0 ≠ j ∧ colAt x m p.length = colAt y (p.getD m 0) j) → ¬ (sameD x y p.length j = true ∧ fitsD x y p j = true) := fun hb h => hb (by
          have := h.2
          unfold fitsD at this
          exact of_decide_eq_true this m (by omega))
        refine atI p3.sl (by omega) hlt2 ?_
        rw [Int.toNat_natCast]
        intro w4 hd4
        have q4 := q3.trans (hd4.below w2.heap.size)
        have j4 : J w4 := hst _ _ hj2 (mod_of_below q4 _)
        have m4 : Mod [bp] w w4 := m2.trans (mod_of_below q4 _)
        have p4 := hp2.keep q4
        obtain ⟨hb4, ax4, ay4, hord4⟩ := hJ w4 j4
        refine ⟨fun he => ?_, fun hne2 => ?_⟩
        · have he := eq_t he
          intro _
          exact ⟨fun h => absurd h (by simp), fun _ => next w4 j4 m4 p4 (by rw [← hR]; exact (isoR_skip (by omega) (hbad fun h => h.1 he)).symm)⟩
        · have hne2 := eq_f hne2
          refine ⟨nn, fldp tr0 (ld (k := .any) y1PC (cx hb4) ⟨nn, fldp tr2 (ld (k := .any) y1SI (cord hb4) (atI hord4 (by omega) (by rw [hsl]; omega) ⟨nn, fldp tr1 (ld (k := .any) y1PC (cy hb4) ?_)⟩))⟩)⟩
          rw [Int.toNat_natCast, selT_get (by omega)]
          refine c_impl_Colouring_at hx ax4 (by omega) (by omega) (by omega) (by omega) (by omega) fun w5 q5 => ⟨q5, c_impl_Colouring_at hy (ay4.keep q5) hto.1 (by omega) (by omega) (by omega) hne2 fun w6 q6 => ?_⟩
          have q56 := q5.trans (q6.mono q5.size)
          have q26 := q4.trans (q56.mono q4.size)
          refine ⟨q56, fun hc => ?_, fun hc => ?_⟩
          · have hc := ne_t hc
            intro _
            exact ⟨fun h => absurd h (by simp), fun _ => next w6 (hst _ _ hj2 (mod_of_below q26 _)) (m2.trans (mod_of_below q26 _)) (hp2.keep q26) (by rw [← hR]; exact (isoR_skip (by omega) (hbad fun h => hc h.2)).symm)⟩
          · have hc := ne_f hc
            rw [wrap_small (by omega) (by omega)]
            refine hN' _ _ ⟨rfl, q26, m + 1, by simp only; omega, by omega, fun a ha => ?_⟩ (by simp only; omega)
            by_cases ham : a < m
            · exact hall a ham
            · have : a = m := by omega
              subst this
              exact ⟨hne2, hc⟩
      · have hge2 := dec_f hge2
        have : m = p.length := by omega
        subst this
        intro _
        refine ⟨fun _ => ?_, fun h => absurd h (by simp)⟩
        have hfits : fitsD x y p j = true := by unfold fitsD; exact decide_eq_true hall
        have hgo := isoR_go (f := fuel) (by omega) hyes hfits
        rw [hR] at hgo
        refine appC p3 (by omega) fun w4 m4 p4 => ?_
        have j4 := hst _ _ j3 m4
        refine c_impl_tracer_all J Q hx hy n0 n1 hxy hS hJ hst hcall fuel (p ++ [(j : Int)]) w4 _ (by simp; omega) j4 p4 (fun e he => by
          rcases List.mem_append.1 he with he | he
          · exact hpe e he
          · simp at he; omega) (fun hnone w5 j5 m5 p5 => ?_) (fun l hsome w5 hq => ?_)
        · refine ⟨fun h => absurd h (by simp), fun _ => ?_⟩
          rw [hnone] at hgo
          exact next w5 j5 ((m3.trans m4).trans m5) p5.pre hgo.symm
        · refine ⟨fun _ => ?_, fun h => absurd h (by simp)⟩
          rw [hsome] at hgo
          intro _
          exact hs l hgo w5 hq
    · have hge := dec_f hge
      have : j = x.n.toNat := by omega
      subst this
      intro _
      refine hn ?_ w2 hj2 m2 hp2
      rw [← hR, hxy, isoR_end]

end Go.Proofs.Ytkadckhealbdaaa

/- The reading of impl_Colouring_leading, and its contract. No condition. -/
namespace Go.Proofs.Ytkadckhealbdaaa
open Go Go.RowKit Eng Mem
set_option linter.unusedVariables false
set_option maxRecDepth 100000
def V_impl_Colouring_leading (x0 : Value) (y1 : Value) (with2 : Value) (w : World) (K : Bool → World → Prop) : Prop :=
  (Fc Try.prog 120 #[x0] w (.one .any) fun (x11_2 : Value) w_1 => (Fc Try.prog 119 #[x0, y1, x11_2] w_1 (.one .any) fun (x12_4 : Value) w_3 => (QAll Try.prog (do eqGuard .eql 111 (.tmp 13) (.const (.pointer none)) x12_4 (.pointer none); binOp .eql 111 x12_4 (.pointer none)) .bool fun (x14_5 : Bool) => ((x14_5 = true → K true w_3) ∧ (x14_5 = false → (Pr Try.prog (Instr.makeSlice 31 (.int .i64 (0 : Int)) (.int .i64 (17 : Int))) w_3 (.one .any) fun (x17_7 : Value) w_6 => (Fc Try.prog 121 #[x12_4, x17_7, with2] w_6 (.one .bool) fun (x19_9 : Bool) w_8 => K x19_9 w_8)))))))

theorem eq_impl_Colouring_leading (x0 : Value) (y1 : Value) (with2 : Value) (w : World) (K : Bool → World → Prop) :
    W Try.prog ty (fun _ _ _ _ => False) (bodyOf Try.f99) (fnPost Try.prog Try.f99.results.toList (.one .bool) K) (frame0 [x0, y1, with2] 21) w = V_impl_Colouring_leading x0 y1 with2 w K := by
  kernel_rfl

theorem body_impl_Colouring_leading : Try.f99.body = some (bodyOf Try.f99) := by kernel_rfl
theorem name_impl_Colouring_leading : (Try.f99.name == "runtime.NumGoroutine") = false := by kernel_rfl

theorem walk_impl_Colouring_leading (x0 : Value) (y1 : Value) (with2 : Value) {w : World} {K : Bool → World → Prop} (h : V_impl_Colouring_leading x0 y1 with2 w K) : Fc Try.prog 99 #[x0, y1, with2] w (.one .bool) K :=
  fn_ok follows (sound_none _) Try.func99 name_impl_Colouring_leading body_impl_Colouring_leading Try.ntmps99 [x0, y1, with2] (Eq.mpr (eq_impl_Colouring_leading x0 y1 with2 w K) h)

-- uses S9IsoM
theorem eqPT {a : Option Addr} {ox oy : Operand} {K : Bool → Prop} (hK : K a.isNone) : QAll Try.prog (do eqGuard .eql tPT ox oy (.pointer a) (.pointer none); binOp .eql tPT (.pointer a) (.pointer none)) .bool K := ⟨_, fun w => eqPT_run a ox oy w, hK⟩
theorem c_impl_Colouring_leading {px py f : Value} {x y : Col} {w : World} {K : Bool → World → Prop} (J : World → Prop) (Q : List Int → World → Prop) (hx : x.Ok) (hy : y.Ok) (Ix : x.Is) (Iy : y.Is) (ax : ColAt w px x) (ay : ColAt w py y) (hj : J w)
    (hst : ∀ w1 w2, J w1 → Below w.heap.size w1 w2 → J w2)
    (hcall : ∀ (l : List Int) (v : Value) (w' : World) (K' : Bool → World → Prop), J w' → Below w.heap.size w w' → l.length ≤ 17 → SlI w' v l → (∀ w'', Q l w'' → K' false w'') → callV Try.prog f #[v] w' (.one .bool) K')
    (hn : isoOf x y = none → ∀ w', Below w.heap.size w w' → J w' → K true w') (hs : ∀ l, isoOf x y = some l → ∀ w', Q l w' → K false w') :
    Fc Try.prog F_impl_Colouring_leading #[px, py, f] w (.one .bool) K := by
  have n0 := Ix.1; have n1 := Ix.2.1
  unfold isoOf at hn hs
  refine walk_impl_Colouring_leading _ _ _ (c_impl_Colouring_points ax n1 fun po w1 bo hbo q1 ho => ?_)
  have hol := selT_len x.n.toNat
  refine c_impl_newTracer hx hy Ix Iy (ax.keep q1) (ay.keep q1) (own_slI ho (by omega)) (fun hne w2 q2 => ?_) (fun hxy hk w2 b S hb q2 h2 hS => ?_)
  · have q12 := q1.trans (q2.mono q1.size)
    refine eqPT ⟨fun _ => ?_, fun h => absurd h (by simp)⟩
    exact hn (by rw [if_neg hne]) w2 q12 (hst _ _ hj q12)
  · have q12 := q1.trans (q2.mono q1.size)
    have hs1 := q1.size; have hs2 := q2.size
    refine eqPT (a := some ⟨b, 0, none⟩) ⟨fun h => absurd h (by simp), fun _ => mkC fun bp w3 hbp q3 hp => ?_⟩
    have q13 := q12.trans (q3.mono q12.size)
    have ho3 := (ho.keep q2).keep q3
    have hlo := ho.lt
    have h3 : Blk w3 b (trV px py po S) tTr := below_at q3 h2 (at_lt h2)
    have hlb := at_lt h2
    rw [if_pos ⟨hxy, hk⟩] at hn hs
    refine c_impl_tracer_all (b := b) (bp := bp) (px := px) (py := py) (po := po) (S := S) (fun w' => J w' ∧ Below w.heap.size w w' ∧ Blk w' b (trV px py po S) tTr ∧ OwnI w' bo po (sel (fun _ => true) x.n.toNat)) Q hx hy n0 n1 hxy hS
      (fun w' hj' => ⟨hj'.2.2.1, ax.keep hj'.2.1, ay.keep hj'.2.1, own_slI hj'.2.2.2 (by omega)⟩)
      (fun w1' w2' hj' m => ?_)
      (fun l w' K' hl hj' hc hk' => hcall l _ w' K' hj'.1 hj'.2.1 (by omega) hc.sl hk')
      x.n.toNat [] w3 _ (by simp) ⟨hst _ _ hj q13, q13, h3, ho3⟩ hp (by simp) (fun hnone w4 hj4 m4 _ => hn hnone w4 hj4.2.1 hj4.1) (fun l hsome w4 hq => hs l hsome w4 hq)
    have hz := hj'.2.1.size
    have mb : Below w.heap.size w1' w2' := m.below (by omega) (by simp; omega)
    exact ⟨hst _ _ hj'.1 mb, hj'.2.1.trans mb, m.at_ hj'.2.2.1 (by simp; omega), hj'.2.2.2.mod m (by simp; omega)⟩

end Go.Proofs.Ytkadckhealbdaaa

/- The reading of slices_Clone_int64_int64, and its contract. No condition. -/
namespace Go.Proofs.Ytkadckhealbdaaa
open Go Go.RowKit Eng Mem
set_option linter.unusedVariables false
set_option maxRecDepth 100000
def V_slices_Clone_int64_int64 (s0 : Value) (w : World) (K : Value → World → Prop) : Prop :=
  (QAll Try.prog (do eqGuard .eql 31 (.tmp 3) (.const (.slice none 0 0)) s0 (.slice none 0 0); binOp .eql 31 s0 (.slice none 0 0)) .bool fun (x4_1 : Bool) => ((x4_1 = true → K ((.slice none 0 0) : Value) w) ∧ (x4_1 = false → (Pr Try.prog (Instr.buildSlice 31 0 #[]) w (.one .any) fun (x5_3 : Value) w_2 => (Pr Try.prog (Builtin.append_ #[31, 31] 31 #[x5_3, s0]) w_2 (.one .any) fun (x7_5 : Value) w_4 => K (x7_5 : Value) w_4)))))

theorem eq_slices_Clone_int64_int64 (s0 : Value) (w : World) (K : Value → World → Prop) :
    W Try.prog ty (fun _ _ _ _ => False) (bodyOf Try.f64) (fnPost Try.prog Try.f64.results.toList (.one .any) K) (frame0 [s0] 8) w = V_slices_Clone_int64_int64 s0 w K := by
  kernel_rfl

theorem body_slices_Clone_int64_int64 : Try.f64.body = some (bodyOf Try.f64) := by kernel_rfl
theorem name_slices_Clone_int64_int64 : (Try.f64.name == "runtime.NumGoroutine") = false := by kernel_rfl

theorem walk_slices_Clone_int64_int64 (s0 : Value) {w : World} {K : Value → World → Prop} (h : V_slices_Clone_int64_int64 s0 w K) : Fc Try.prog 64 #[s0] w (.one .any) K :=
  fn_ok follows (sound_none _) Try.func64 name_slices_Clone_int64_int64 body_slices_Clone_int64_int64 Try.ntmps64 [s0] (Eq.mpr (eq_slices_Clone_int64_int64 s0 w K) h)

-- uses S2Sl
theorem c_slices_Clone_int64_int64 {a : Value} {l : List Int} {w : World} {K : Value → World → Prop} (h : SlI w a l) (hl : l.length ≤ 1099511627776) (hK : ∀ v w', Below w.heap.size w w' → MyI w.heap.size w'.heap.size w' v l → K v w') :
    Fc Try.prog F_slices_Clone_int64_int64 #[a] w (.one .any) K := by
  refine walk_slices_Clone_int64_int64 _ (nil_I h fun b hb => ⟨fun ht => ?_, fun _ => ?_⟩)
  · have := hb ht
    subst this
    exact hK _ w (Below.refl _ _) (myI_nil _ _ _)
  · refine nilI fun b v w1 hb1 hbel ho => ?_
    refine appsI ho (h.keep hbel) (by simpa using hl) fun v' w2 b2 o m hb2 => ?_
    have hs := hbel.size
    rw [List.nil_append] at o
    exact hK _ w2 (hbel.trans (m.below (by omega) (by simp; omega))) (own_my o hl (by omega) o.lt)

end Go.Proofs.Ytkadckhealbdaaa

/- The reading of impl_Colouring_renumbering_1, and its contract. No condition. -/
namespace Go.Proofs.Ytkadckhealbdaaa
open Go Go.RowKit Eng Mem
set_option linter.unusedVariables false
set_option maxRecDepth 100000
def V_impl_Colouring_renumbering_1 (p0 : Value) (x1 : Value) (w : World) (K : Bool → World → Prop) : Prop :=
  (Fc Try.prog 64 #[p0] w (.one .any) fun (x5_2 : Value) w_1 => (PrU Try.prog (Instr.storeAt 31 x1 x5_2) w_1 fun w_3 => K false w_3))

theorem eq_impl_Colouring_renumbering_1 (p0 : Value) (x1 : Value) (w : World) (K : Bool → World → Prop) :
    W Try.prog ty (fun _ _ _ _ => False) (bodyOf Try.f100) (fnPost Try.prog Try.f100.results.toList (.one .bool) K) (frame0 [p0, x1] 6) w = V_impl_Colouring_renumbering_1 p0 x1 w K := by
  kernel_rfl

theorem body_impl_Colouring_renumbering_1 : Try.f100.body = some (bodyOf Try.f100) := by kernel_rfl
theorem name_impl_Colouring_renumbering_1 : (Try.f100.name == "runtime.NumGoroutine") = false := by kernel_rfl

theorem walk_impl_Colouring_renumbering_1 (p0 : Value) (x1 : Value) {w : World} {K : Bool → World → Prop} (h : V_impl_Colouring_renumbering_1 p0 x1 w K) : Fc Try.prog 100 #[p0, x1] w (.one .bool) K :=
  fn_ok follows (sound_none _) Try.func100 name_impl_Colouring_renumbering_1 body_impl_Colouring_renumbering_1 Try.ntmps100 [p0, x1] (Eq.mpr (eq_impl_Colouring_renumbering_1 p0 x1 w K) h)

-- uses S9IsoM
theorem c_impl_Colouring_renumbering_1 {v v0 : Value} {bv : Nat} {l : List Int} {w : World} {K : Bool → World → Prop} (hv : SlI w v l) (hl : l.length ≤ 17) (hb : Blk w bv [v0] tSI)
    (hK : ∀ u w', Mod [bv] w w' → MyI w.heap.size w'.heap.size w' u l → Blk w' bv [u] tSI → K false w') : Fc Try.prog F_impl_Colouring_renumbering_1 #[v, ptr bv 0] w (.one .bool) K := by
  refine walk_impl_Colouring_renumbering_1 _ _ (c_slices_Clone_int64_int64 hv (by omega) fun u w1 q1 hu => ?_)
  have one : u.oneCell' = true := by
    rcases hu with ⟨_, ⟨rfl, _⟩ | ⟨c, _, _, ho⟩⟩
    · rfl
    · exact own_one_I ho
  have hlt := at_lt hb
  refine st y1SI (below_at q1 hb hlt) (by simp) one fun w2 m2 s2 h2 => hK u w2 ((mod_of_below q1 _).trans m2) ?_ h2
  have hz := q1.size
  rw [s2]
  exact hu.modr (m2.r (B := 0) (E := w.heap.size) (by omega) hlt) (by omega)

end Go.Proofs.Ytkadckhealbdaaa

/- The reading of impl_Colouring_renumbering, and its contract. No condition. -/
namespace Go.Proofs.Ytkadckhealbdaaa
open Go Go.RowKit Eng Mem
set_option linter.unusedVariables false
set_option maxRecDepth 100000
def V_impl_Colouring_renumbering (x0 : Value) (y1 : Value) (w : World) (K : (Value × Bool) → World → Prop) : Prop :=
  (Pr Try.prog (Instr.buildSlice 31 0 #[]) w (.one .any) fun (x8_2 : Value) w_1 => (Pr Try.prog (Instr.alloc 31 true (.tuple #[])) w_1 (.one .any) fun (out6_4 : Value) w_3 => (PrU Try.prog (Instr.storeAt 31 out6_4 x8_2) w_3 fun w_5 => (Fc Try.prog 99 #[x0, y1, (.func (.func 100) #[] #[out6_4])] w_5 (.one .bool) fun (x12_8 : Bool) w_7 => (QSub Try.prog (Instr.loadAt 31 out6_4) w_7 .any fun (x13_9 : Value) => K ((x13_9 : Value), (!x12_8)) w_7)))))

theorem eq_impl_Colouring_renumbering (x0 : Value) (y1 : Value) (w : World) (K : (Value × Bool) → World → Prop) :
    W Try.prog ty (fun _ _ _ _ => False) (bodyOf Try.f68) (fnPost Try.prog Try.f68.results.toList (.two .any .bool) K) (frame0 [x0, y1] 16) w = V_impl_Colouring_renumbering x0 y1 w K := by
  kernel_rfl

theorem body_impl_Colouring_renumbering : Try.f68.body = some (bodyOf Try.f68) := by kernel_rfl
theorem name_impl_Colouring_renumbering : (Try.f68.name == "runtime.NumGoroutine") = false := by kernel_rfl

theorem walk_impl_Colouring_renumbering (x0 : Value) (y1 : Value) {w : World} {K : (Value × Bool) → World → Prop} (h : V_impl_Colouring_renumbering x0 y1 w K) : Fc Try.prog 68 #[x0, y1] w (.two .any .bool) K :=
  fn_ok follows (sound_none _) Try.func68 name_impl_Colouring_renumbering body_impl_Colouring_renumbering Try.ntmps68 [x0, y1] (Eq.mpr (eq_impl_Colouring_renumbering x0 y1 w K) h)

-- uses S9IsoM
theorem c_impl_Colouring_renumbering {px py : Value} {x y : Col} {w : World} {K : Value × Bool → World → Prop} (hx : x.Ok) (hy : y.Ok) (Ix : x.Is) (Iy : y.Is) (ax : ColAt w px x) (ay : ColAt w py y)
    (hK : ∀ v w', Below w.heap.size w w' → MyI w.heap.size w'.heap.size w' v ((isoOf x y).getD []) → K (v, (isoOf x y).isSome) w') : Fc Try.prog F_impl_Colouring_renumbering #[px, py] w (.two .any .bool) K := by
  refine walk_impl_Colouring_renumbering _ _ (nilI fun b0 v0 w1 e0 q1 o0 => alloc1 y1SI fun bv w2 m2 => st y1SI m2.at_ (by simp) (own_one_I o0) fun w3 m3 s3 h3 => ?_)
  have h3 : Blk w3 bv [v0] tSI := h3
  have e2 := m2.here; have s2 := m2.size; have hs1 := q1.size
  have q3 : Below w.heap.size w w3 := (q1.trans (m2.below.mono hs1)).trans (m3.below (by omega) (by simp; omega))
  have hl0 := o0.lt
  have o3 : OwnI w3 b0 v0 [] := (o0.keep m2.below).mod m3 (by simp; omega)
  have hs3 := q3.size
  refine c_impl_Colouring_leading (fun w' => Below w.heap.size w w' ∧ Blk w' bv [v0] tSI ∧ OwnI w' b0 v0 []) (fun l w' => ∃ u, Below w.heap.size w w' ∧ MyI w.heap.size w'.heap.size w' u l ∧ Blk w' bv [u] tSI) hx hy Ix Iy (ax.keep q3) (ay.keep q3) ⟨q3, h3, o3⟩
    (fun w1' w2' hj q => ?_) (fun l v w' K' hj q hl hv hk' => cv rfl (c_impl_Colouring_renumbering_1 hv hl hj.2.1 fun u w'' m hu hb => hk' w'' ⟨u, hj.1.trans (m.below (by have := hj.1.size; omega) (by simp; omega)), hu.mono (by have := hj.1.size; omega) (Nat.le_refl _), hb⟩))
    (fun hnone w4 q4 hj => ?_) (fun l hsome w4 hq => ?_)
  · have hb := at_lt h3
    have hz := hj.1.size
    refine ⟨hj.1.trans (q.mono (by omega)), ?_, ?_⟩
    · rw [Blk, q.block bv hb]; exact hj.2.1
    · obtain ⟨cap, l', hv, hb', r⟩ := hj.2.2
      exact ⟨cap, l', hv, by rw [Blk, q.block b0 (by omega)]; exact hb', r⟩
  · refine ld (k := .any) y1SI (row_all (cs := [_]) hj.2.1) ?_
    have := hK v0 w4 hj.1
    rw [hnone] at this
    exact this (own_my hj.2.2 (by simp) (by omega) hj.2.2.lt)
  · obtain ⟨u, q4, hu, hb⟩ := hq
    refine ld (k := .any) y1SI (row_all (cs := [_]) hb) ?_
    have := hK u w4 q4
    rw [hsome] at this
    exact this hu

end Go.Proofs.Ytkadckhealbdaaa

/- The reading of impl_FindRenumbering, and its contract. No condition. -/
namespace Go.Proofs.Ytkadckhealbdaaa
open Go Go.RowKit Eng Mem
set_option linter.unusedVariables false
set_option maxRecDepth 100000
def V_impl_FindRenumbering (x0 : Value) (y1 : Value) (w : World) (K : (Value × Int) → World → Prop) : Prop :=
  (Pr Try.prog (Instr.box 25 x0) w (.one .any) fun (x2_2 : Value) w_1 => (Pr Try.prog (Instr.box 25 y1) w_1 (.one .any) fun (y3_4 : Value) w_3 => (Fc Try.prog 67 #[x2_2] w_3 (.one .bool) fun (x8_6 : Bool) w_5 => (((!x8_6) = true → K (((.slice none 0 0) : Value), (1 : Int)) w_5) ∧ ((!x8_6) = false → (Fc Try.prog 67 #[y3_4] w_5 (.one .bool) fun (x11_8 : Bool) w_7 => (((!x11_8) = true → K (((.slice none 0 0) : Value), (1 : Int)) w_7) ∧ ((!x11_8) = false → (Fc Try.prog 68 #[x2_2, y3_4] w_7 (.two .any .bool) fun (x15_10 : Value × Bool) w_9 => (((!x15_10.2) = true → K (((.slice none 0 0) : Value), (4 : Int)) w_9) ∧ ((!x15_10.2) = false → K ((x15_10.1 : Value), (0 : Int)) w_9)))))))))))

theorem eq_impl_FindRenumbering (x0 : Value) (y1 : Value) (w : World) (K : (Value × Int) → World → Prop) :
    W Try.prog ty (fun _ _ _ _ => False) (bodyOf Try.f33) (fnPost Try.prog Try.f33.results.toList (.two .any (.int .i64)) K) (frame0 [x0, y1] 21) w = V_impl_FindRenumbering x0 y1 w K := by
  kernel_rfl

theorem body_impl_FindRenumbering : Try.f33.body = some (bodyOf Try.f33) := by kernel_rfl
theorem name_impl_FindRenumbering : (Try.f33.name == "runtime.NumGoroutine") = false := by kernel_rfl

theorem walk_impl_FindRenumbering (x0 : Value) (y1 : Value) {w : World} {K : (Value × Int) → World → Prop} (h : V_impl_FindRenumbering x0 y1 w K) : Fc Try.prog 33 #[x0, y1] w (.two .any (.int .i64)) K :=
  fn_ok follows (sound_none _) Try.func33 name_impl_FindRenumbering body_impl_FindRenumbering Try.ntmps33 [x0, y1] (Eq.mpr (eq_impl_FindRenumbering x0 y1 w K) h)

-- uses S9IsoM
theorem c_impl_FindRenumbering {x y : Col} {w : World} {K : Value × Int → World → Prop} (hx : x.Ok) (hy : y.Ok)
    (hK : ∀ w' v, Below w.heap.size w w' → MyI w.heap.size w'.heap.size w' v (findI x y).1 → K (v, (findI x y).2) w') : Fc Try.prog F_impl_FindRenumbering #[x.val, y.val] w (.two .any (.int .i64)) K := by
  unfold findI at hK
  refine walk_impl_FindRenumbering _ _ (col_box fun b1 w1 m1 ax => col_box fun b2 w2 m2 ay => ?_)
  have q2 := m1.below.trans (m2.below.mono m1.below.size)
  have ax := ax.keep m2.below
  refine c_impl_Colouring_isColouring hx ax fun w3 q3 => ⟨fun h => ?_, fun h => c_impl_Colouring_isColouring hy (ay.keep q3) fun w4 q4 => ⟨fun h2 => ?_, fun h2 => ?_⟩⟩
  · rw [if_neg (fun hh => notd_t h hh.1)] at hK
    exact hK w3 _ (q2.trans (q3.mono q2.size)) (myI_nil _ _ _)
  · rw [if_neg (fun hh => notd_t h2 hh.2)] at hK
    exact hK w4 _ ((q2.trans (q3.mono q2.size)).trans (q4.mono (by have := q2.size; have := q3.size; omega))) (myI_nil _ _ _)
  have Ix := notd_f h; have Iy := notd_f h2
  rw [if_pos ⟨Ix, Iy⟩] at hK
  have q4' := (q2.trans (q3.mono q2.size)).trans (q4.mono (by have := q2.size; have := q3.size; omega))
  have hs := q4'.size
  refine c_impl_Colouring_renumbering hx hy Ix Iy ((ax.keep q3).keep q4) ((ay.keep q3).keep q4) fun v w5 q5 hv => ?_
  have q5' := q4'.trans (q5.mono hs)
  cases hi : isoOf x y with
  | none =>
    rw [hi] at hK hv
    exact ⟨fun _ => hK w5 _ q5' (myI_nil _ _ _), fun h => absurd h (by simp)⟩
  | some l =>
    rw [hi] at hK hv
    exact ⟨fun h => absurd h (by simp), fun _ => hK w5 v q5' (hv.mono hs (Nat.le_refl _))⟩

end Go.Proofs.Ytkadckhealbdaaa

/- The reading of laws_eqInt64S, and its contract. No condition. -/
namespace Go.Proofs.Ytkadckhealbdaaa
open Go Go.RowKit Eng Mem
set_option linter.unusedVariables false
set_option maxRecDepth 100000
def B_laws_eqInt64S_4 (a0 : Value) (b1 : Value) (i5 : Int) (N : (Value × Value) → Int → World → Prop) (D0 : (Unit) → World → Prop) (R : (Bool × Unit) → World → Prop) (w : World) : Prop :=
  (QAll Try.prog (Builtin.len_ #[31] 3 #[a0]) (.int .i64) fun (x13_3 : Int) => (((decide (i5 < x13_3)) = true → (∀ w_4, Drew w w_4 → (QAll Try.prog (Instr.indexAt 31 a0 (.int .i64 i5)) .any fun (x19_5 : Value) => (QSub Try.prog (Instr.loadAt 2 x19_5) w_4 (.int .i64) fun (x20_6 : Int) => (QAll Try.prog (Instr.indexAt 31 b1 (.int .i64 i5)) .any fun (x23_7 : Value) => (QSub Try.prog (Instr.loadAt 2 x23_7) w_4 (.int .i64) fun (x24_8 : Int) => (((x20_6 != x24_8) = true → R (false, ()) w_4) ∧ ((x20_6 != x24_8) = false → N ((a0 : Value), (b1 : Value)) (IntKind.i64.wrap (i5 + (1 : Int))) w_4)))))))) ∧ ((decide (i5 < x13_3)) = false → D0 () w)))

abbrev L_laws_eqInt64S_4_e0 : List Slot := [.junk, .junk, .junk, .junk, .junk, .junk, .junk, .junk, .junk, .junk, .junk, .junk, .junk, .junk, .junk, .junk, .junk, .junk, .junk, .junk, .junk, .junk, .junk, .junk, .junk, .junk]

abbrev L_laws_eqInt64S_4_sp : List Slot := [.k .any, .k .any, .junk, .junk, .junk, .k (.int .i64), .junk, .junk, .junk, .junk, .junk, .junk, .junk, .junk, .junk, .junk, .junk, .junk, .junk, .junk, .junk, .junk, .junk, .junk, .junk, .junk]
abbrev L_laws_eqInt64S_4_ex : List (Nat × List Slot) := [(0, L_laws_eqInt64S_4_e0)]
abbrev L_laws_eqInt64S_4_rt : List Slot := [.junk, .junk, .junk, .junk, .k .bool, .junk, .junk, .junk, .junk, .junk, .junk, .junk, .junk, .junk, .junk, .junk, .junk, .junk, .junk, .junk, .junk, .junk, .junk, .junk, .junk, .junk]

def L_laws_eqInt64S_4_b (Φ : Post) (u : (Value × Value)) (N : (Value × Value) → Int → World → Prop) (s : Int) (w : World) : Prop :=
  B_laws_eqInt64S_4 u.1 u.2 s N (fun v w => ∀ j : Nat → Value, Φ (.exit 0) (mkT j 0 L_laws_eqInt64S_4_e0 v) w) (fun v w => ∀ j : Nat → Value, Φ .ret (mkT j 0 L_laws_eqInt64S_4_rt v) w) w

theorem L_laws_eqInt64S_4_eq (j : Nat → Value) (u : (Value × Value)) (s : Int) (N : (Value × Value) → Int → World → Prop) (D0 : (Unit) → World → Prop) (R : (Bool × Unit) → World → Prop) (w : World) :
    W Try.prog ty (fun _ _ _ _ => False) (loopAt Try.f20 4) (loopPost L_laws_eqInt64S_4_sp [(0, (⟨L_laws_eqInt64S_4_e0, D0⟩ : Door))] ⟨L_laws_eqInt64S_4_rt, R⟩ (fun v w => N ((fun v => (v.1, v.2.1)) v) ((fun v => v.2.2.1) v) w)) (mkT j 0 L_laws_eqInt64S_4_sp ((fun u s => (u.1, u.2, s, ())) u s)) w =
    B_laws_eqInt64S_4 u.1 u.2 s N D0 R w := by
  kernel_rfl

def O_laws_eqInt64S_1 : Code → Post → List SV → World → Prop :=
  orc 4 (loopAt Try.f20 4) L_laws_eqInt64S_4_sp (fun Φ fr w => LOOP (U := (Value × Value)) (S := Int) ((fun v => (v.1, v.2.1)) (extT L_laws_eqInt64S_4_sp fr)) (L_laws_eqInt64S_4_b Φ ((fun v => (v.1, v.2.1)) (extT L_laws_eqInt64S_4_sp fr))) ((fun v => v.2.2.1) (extT L_laws_eqInt64S_4_sp fr)) w) (fun _ _ _ _ => False)

theorem O_laws_eqInt64S_1_ok : Sound Try.prog O_laws_eqInt64S_1 :=
  orc_ok (sound_none _) fun Φ fr w hs h => loop_ok (ty := ty) follows (sound_none _) L_laws_eqInt64S_4_sp (fun v => (v.1, v.2.1)) (fun v => v.2.2.1) (fun u s => (u.1, u.2, s, ())) (fun _ => rfl) L_laws_eqInt64S_4_ex L_laws_eqInt64S_4_rt (body := L_laws_eqInt64S_4_b Φ) (fun j u s w N hb => by
    have e := L_laws_eqInt64S_4_eq j u s N (doorOf Φ (.exit 0) L_laws_eqInt64S_4_e0).D (doorOf Φ .ret L_laws_eqInt64S_4_rt).D w
    exact Eq.mpr e hb) hs h

def V_laws_eqInt64S (a0 : Value) (b1 : Value) (w : World) (K : Bool → World → Prop) : Prop :=
  (QAll Try.prog (Builtin.len_ #[31] 3 #[a0]) (.int .i64) fun (x7_1 : Int) => (QAll Try.prog (Builtin.len_ #[31] 3 #[b1]) (.int .i64) fun (x9_2 : Int) => (((x7_1 != x9_2) = true → K false w) ∧ ((x7_1 != x9_2) = false → (At (loopAt Try.f20 4) (loopAt Try.f20 4) (LOOP (U := (Value × Value)) (S := Int) ((a0 : Value), (b1 : Value)) (fun N_15 s_16 w_17 => B_laws_eqInt64S_4 (a0 : Value) (b1 : Value) s_16 N_15 (fun (v_9 : (Unit)) w_10 => ∀ _j_11 : Nat → Value, K true w_10) (fun (v_12 : (Bool × Unit)) w_13 => ∀ _j_14 : Nat → Value, K v_12.1 w_13) w_17) (0 : Int) w))))))

theorem eq_laws_eqInt64S (a0 : Value) (b1 : Value) (w : World) (K : Bool → World → Prop) :
    W Try.prog ty O_laws_eqInt64S_1 (bodyOf Try.f20) (fnPost Try.prog Try.f20.results.toList (.one .bool) K) (frame0 [a0, b1] 26) w = V_laws_eqInt64S a0 b1 w K := by
  kernel_rfl

theorem body_laws_eqInt64S : Try.f20.body = some (bodyOf Try.f20) := by kernel_rfl
theorem name_laws_eqInt64S : (Try.f20.name == "runtime.NumGoroutine") = false := by kernel_rfl

theorem walk_laws_eqInt64S (a0 : Value) (b1 : Value) {w : World} {K : Bool → World → Prop} (h : V_laws_eqInt64S a0 b1 w K) : Fc Try.prog 20 #[a0, b1] w (.one .bool) K :=
  fn_ok follows O_laws_eqInt64S_1_ok Try.func20 name_laws_eqInt64S body_laws_eqInt64S Try.ntmps20 [a0, b1] (Eq.mpr (eq_laws_eqInt64S a0 b1 w K) h)

-- uses S2Sl
theorem c_laws_eqInt64S {a b : Value} {l m : List Int} {w : World} {K : Bool → World → Prop} (h : SlI w a l) (k : SlI w b m) (hK : ∀ w', Below w.heap.size w w' → K (decide (l = m)) w') :
    Fc Try.prog F_laws_eqInt64S #[a, b] w (.one .bool) K := by
  have hll := h.len; have hml := k.len
  have yes : ∀ w', Below w.heap.size w w' → l = m → K true w' := fun w' hb he => by have := hK w' hb; rwa [decide_eq_true he] at this
  have no : ∀ w', Below w.heap.size w w' → l ≠ m → K false w' := fun w' hb he => by have := hK w' hb; rwa [decide_eq_false he] at this
  refine walk_laws_eqInt64S _ _ ?_
  refine lenI h (lenI k ⟨fun hne => no w (Below.refl _ _) fun he => by simp [he] at hne, fun heq => ?_⟩)
  have heq : l.length = m.length := by have := ne_f heq; omega
  refine lp (fun i w' => 0 ≤ i ∧ i ≤ l.length ∧ Below w.heap.size w w' ∧ ∀ j : Nat, (j : Int) < i → l.getD j 0 = m.getD j 0) (fun i _ => (l.length - i).toNat)
    ⟨by omega, by omega, Below.refl _ _, fun j hj => by omega⟩ ?_
  rintro i w1 N ⟨h0, hi, hb, hall⟩ hN
  unfold B_laws_eqInt64S_4
  refine lenI (h.keep hb) ⟨fun hlt w' hd => ?_, fun hge => ?_⟩
  · have hlt := of_decide_eq_true hlt
    have hb' := hb.trans (hd.below _)
    refine atI (h.keep hb') h0 hlt (atI (k.keep hb') h0 (by omega) ⟨fun hne _ => ?_, fun he => ?_⟩)
    · exact no w' hb' fun hlm => by subst hlm; simp at hne
    · have he : l.getD i.toNat 0 = m.getD i.toNat 0 := by simpa using he
      rw [wrap_small (by omega) (by omega)]
      refine hN _ _ ⟨by omega, by omega, hb', fun j hj => ?_⟩ (by omega)
      by_cases hji : (j : Int) < i
      · exact hall j hji
      · have : j = i.toNat := by omega
        subst this; exact he
  · have hge := of_decide_eq_false hge
    refine fun _ => yes w1 hb (List.ext_getElem heq fun j h1 h2 => ?_)
    have := hall j (by omega)
    simpa [List.getD, h1, h2] using this

end Go.Proofs.Ytkadckhealbdaaa

/- The reading of laws_heldInt64S, and its contract. No condition. -/
namespace Go.Proofs.Ytkadckhealbdaaa
open Go Go.RowKit Eng Mem
set_option linter.unusedVariables false
set_option maxRecDepth 100000
def B_laws_heldInt64S_2 (a0 : Value) (k1 : Int) (i5 : Int) (N : Value → (Int × Int) → World → Prop) (D0 : (Int × Unit) → World → Prop) (R : (Int × Unit) → World → Prop) (w : World) : Prop :=
  (QAll Try.prog (Builtin.len_ #[31] 3 #[a0]) (.int .i64) fun (x8_1 : Int) => (((decide (i5 < x8_1)) = true → (QAll Try.prog (Instr.indexAt 31 a0 (.int .i64 i5)) .any fun (x14_2 : Value) => (QSub Try.prog (Instr.loadAt 2 x14_2) w (.int .i64) fun (x15_3 : Int) => (((x15_3 != k1) = true → R ((-1 : Int), ()) w) ∧ ((x15_3 != k1) = false → N (a0 : Value) ((IntKind.i64.wrap (k1 + (1 : Int))), (IntKind.i64.wrap (i5 + (1 : Int)))) w))))) ∧ ((decide (i5 < x8_1)) = false → D0 (k1, ()) w)))

abbrev L_laws_heldInt64S_2_e0 : List Slot := [.junk, .k (.int .i64), .junk, .junk, .junk, .junk, .junk, .junk, .junk, .junk, .junk, .junk, .junk, .junk, .junk, .junk, .junk, .junk, .junk, .junk, .junk]

abbrev L_laws_heldInt64S_2_sp : List Slot := [.k .any, .k (.int .i64), .junk, .junk, .junk, .k (.int .i64), .junk, .junk, .junk, .junk, .junk, .junk, .junk, .junk, .junk, .junk, .junk, .junk, .junk, .junk, .junk]
abbrev L_laws_heldInt64S_2_ex : List (Nat × List Slot) := [(0, L_laws_heldInt64S_2_e0)]
abbrev L_laws_heldInt64S_2_rt : List Slot := [.junk, .junk, .junk, .junk, .k (.int .i64), .junk, .junk, .junk, .junk, .junk, .junk, .junk, .junk, .junk, .junk, .junk, .junk, .junk, .junk, .junk, .junk]

def L_laws_heldInt64S_2_b (Φ : Post) (u : Value) (N : Value → (Int × Int) → World → Prop) (s : (Int × Int)) (w : World) : Prop :=
  B_laws_heldInt64S_2 u s.1 s.2 N (fun v w => ∀ j : Nat → Value, Φ (.exit 0) (mkT j 0 L_laws_heldInt64S_2_e0 v) w) (fun v w => ∀ j : Nat → Value, Φ .ret (mkT j 0 L_laws_heldInt64S_2_rt v) w) w

theorem L_laws_heldInt64S_2_eq (j : Nat → Value) (u : Value) (s : (Int × Int)) (N : Value → (Int × Int) → World → Prop) (D0 : (Int × Unit) → World → Prop) (R : (Int × Unit) → World → Prop) (w : World) :
    W Try.prog ty (fun _ _ _ _ => False) (loopAt Try.f22 2) (loopPost L_laws_heldInt64S_2_sp [(0, (⟨L_laws_heldInt64S_2_e0, D0⟩ : Door))] ⟨L_laws_heldInt64S_2_rt, R⟩ (fun v w => N ((fun v => v.1) v) ((fun v => (v.2.1, v.2.2.1)) v) w)) (mkT j 0 L_laws_heldInt64S_2_sp ((fun u s => (u, s.1, s.2, ())) u s)) w =
    B_laws_heldInt64S_2 u s.1 s.2 N D0 R w := by
  kernel_rfl

def O_laws_heldInt64S_1 : Code → Post → List SV → World → Prop :=
  orc 2 (loopAt Try.f22 2) L_laws_heldInt64S_2_sp (fun Φ fr w => LOOP (U := Value) (S := (Int × Int)) ((fun v => v.1) (extT L_laws_heldInt64S_2_sp fr)) (L_laws_heldInt64S_2_b Φ ((fun v => v.1) (extT L_laws_heldInt64S_2_sp fr))) ((fun v => (v.2.1, v.2.2.1)) (extT L_laws_heldInt64S_2_sp fr)) w) (fun _ _ _ _ => False)

theorem O_laws_heldInt64S_1_ok : Sound Try.prog O_laws_heldInt64S_1 :=
  orc_ok (sound_none _) fun Φ fr w hs h => loop_ok (ty := ty) follows (sound_none _) L_laws_heldInt64S_2_sp (fun v => v.1) (fun v => (v.2.1, v.2.2.1)) (fun u s => (u, s.1, s.2, ())) (fun _ => rfl) L_laws_heldInt64S_2_ex L_laws_heldInt64S_2_rt (body := L_laws_heldInt64S_2_b Φ) (fun j u s w N hb => by
    have e := L_laws_heldInt64S_2_eq j u s N (doorOf Φ (.exit 0) L_laws_heldInt64S_2_e0).D (doorOf Φ .ret L_laws_heldInt64S_2_rt).D w
    exact Eq.mpr e hb) hs h

def V_laws_heldInt64S (a0 : Value) (k1 : Int) (w : World) (K : Int → World → Prop) : Prop :=
  (At (loopAt Try.f22 2) (loopAt Try.f22 2) (LOOP (U := Value) (S := (Int × Int)) (a0 : Value) (fun N_10 s_11 w_12 => B_laws_heldInt64S_2 (a0 : Value) s_11.1 s_11.2 N_10 (fun (v_4 : (Int × Unit)) w_5 => ∀ _j_6 : Nat → Value, K v_4.1 w_5) (fun (v_7 : (Int × Unit)) w_8 => ∀ _j_9 : Nat → Value, K v_7.1 w_8) w_12) (k1, (0 : Int)) w))

theorem eq_laws_heldInt64S (a0 : Value) (k1 : Int) (w : World) (K : Int → World → Prop) :
    W Try.prog ty O_laws_heldInt64S_1 (bodyOf Try.f22) (fnPost Try.prog Try.f22.results.toList (.one (.int .i64)) K) (frame0 [a0, (.int .i64 k1)] 21) w = V_laws_heldInt64S a0 k1 w K := by
  kernel_rfl

theorem body_laws_heldInt64S : Try.f22.body = some (bodyOf Try.f22) := by kernel_rfl
theorem name_laws_heldInt64S : (Try.f22.name == "runtime.NumGoroutine") = false := by kernel_rfl

theorem walk_laws_heldInt64S (a0 : Value) (k1 : Int) {w : World} {K : Int → World → Prop} (h : V_laws_heldInt64S a0 k1 w K) : Fc Try.prog 22 #[a0, (.int .i64 k1)] w (.one (.int .i64)) K :=
  fn_ok follows O_laws_heldInt64S_1_ok Try.func22 name_laws_heldInt64S body_laws_heldInt64S Try.ntmps22 [a0, (.int .i64 k1)] (Eq.mpr (eq_laws_heldInt64S a0 k1 w K) h)

-- uses S2Sl
theorem c_laws_heldInt64S {a : Value} {k : Int} {n B E : Nat} {w : World} {K : Int → World → Prop} (hm : MyI B E w a (upto k n)) (h0 : 0 ≤ k) (h1 : k ≤ 4398046511104) (hK : ∀ w', Below w.heap.size w w' → K (k + n) w') :
    Fc Try.prog F_laws_heldInt64S #[a, .int .i64 k] w (.one (.int .i64)) K := by
  have hL : (upto k n).length = n := by simp [upto]
  have hn := hm.len
  rw [hL] at hn
  have h := hm.sl
  refine walk_laws_heldInt64S _ _ ?_
  refine lp (fun s w' => 0 ≤ s.2 ∧ s.2 ≤ n ∧ s.1 = k + s.2 ∧ Below w.heap.size w w') (fun s _ => (n - s.2).toNat) ⟨by simp, by simp, by simp, Below.refl _ _⟩ ?_
  rintro ⟨k', i⟩ w' N ⟨i0, i1, hk, hb⟩ hN
  simp only at i0 i1 hk
  subst hk
  unfold B_laws_heldInt64S_2
  have h' := h.keep hb
  refine lenI h' ⟨fun hlt => ?_, fun hge => ?_⟩
  · rw [hL] at hlt
    have hlt := of_decide_eq_true hlt
    refine atI h' i0 (by rw [hL]; exact hlt) ?_
    have hv : (upto k n).getD i.toNat 0 = k + i := by simp [upto, List.getD, show i.toNat < n from by omega]; omega
    rw [hv]
    refine ⟨fun hne => by simp at hne, fun _ => ?_⟩
    simp only
    rw [wrap_small (by omega) (by omega), wrap_small (by omega) (by omega)]
    exact hN _ _ ⟨by simp; omega, by simp; omega, by simp; omega, hb⟩ (by simp; omega)
  · rw [hL] at hge
    have hge := of_decide_eq_false hge
    intro _
    have : i = n := by omega
    subst this
    exact hK w' hb

end Go.Proofs.Ytkadckhealbdaaa

/- The reading of laws_markInt64S, and its contract. No condition. -/
namespace Go.Proofs.Ytkadckhealbdaaa
open Go Go.RowKit Eng Mem
set_option linter.unusedVariables false
set_option maxRecDepth 100000
def B_laws_markInt64S_2 (a0 : Value) (k1 : Int) (i5 : Int) (N : Value → (Int × Int) → World → Prop) (D0 : (Int × Unit) → World → Prop) (w : World) : Prop :=
  (QAll Try.prog (Builtin.len_ #[31] 3 #[a0]) (.int .i64) fun (x8_1 : Int) => (((decide (i5 < x8_1)) = true → (QAll Try.prog (Instr.indexAt 31 a0 (.int .i64 i5)) .any fun (x15_2 : Value) => (PrU Try.prog (Instr.storeAt 2 x15_2 (.int .i64 k1)) w fun w_3 => N (a0 : Value) ((IntKind.i64.wrap (k1 + (1 : Int))), (IntKind.i64.wrap (i5 + (1 : Int)))) w_3))) ∧ ((decide (i5 < x8_1)) = false → D0 (k1, ()) w)))

abbrev L_laws_markInt64S_2_e0 : List Slot := [.junk, .k (.int .i64), .junk, .junk, .junk, .junk, .junk, .junk, .junk, .junk, .junk, .junk, .junk, .junk, .junk, .junk, .junk, .junk, .junk]

abbrev L_laws_markInt64S_2_sp : List Slot := [.k .any, .k (.int .i64), .junk, .junk, .junk, .k (.int .i64), .junk, .junk, .junk, .junk, .junk, .junk, .junk, .junk, .junk, .junk, .junk, .junk, .junk]
abbrev L_laws_markInt64S_2_ex : List (Nat × List Slot) := [(0, L_laws_markInt64S_2_e0)]
abbrev L_laws_markInt64S_2_rt : List Slot := [.junk, .junk, .junk, .junk, .junk, .junk, .junk, .junk, .junk, .junk, .junk, .junk, .junk, .junk, .junk, .junk, .junk, .junk, .junk]

def L_laws_markInt64S_2_b (Φ : Post) (u : Value) (N : Value → (Int × Int) → World → Prop) (s : (Int × Int)) (w : World) : Prop :=
  B_laws_markInt64S_2 u s.1 s.2 N (fun v w => ∀ j : Nat → Value, Φ (.exit 0) (mkT j 0 L_laws_markInt64S_2_e0 v) w) w

theorem L_laws_markInt64S_2_eq (j : Nat → Value) (u : Value) (s : (Int × Int)) (N : Value → (Int × Int) → World → Prop) (D0 : (Int × Unit) → World → Prop) (R : (Unit) → World → Prop) (w : World) :
    W Try.prog ty (fun _ _ _ _ => False) (loopAt Try.f21 2) (loopPost L_laws_markInt64S_2_sp [(0, (⟨L_laws_markInt64S_2_e0, D0⟩ : Door))] ⟨L_laws_markInt64S_2_rt, R⟩ (fun v w => N ((fun v => v.1) v) ((fun v => (v.2.1, v.2.2.1)) v) w)) (mkT j 0 L_laws_markInt64S_2_sp ((fun u s => (u, s.1, s.2, ())) u s)) w =
    B_laws_markInt64S_2 u s.1 s.2 N D0 w := by
  kernel_rfl

def O_laws_markInt64S_1 : Code → Post → List SV → World → Prop :=
  orc 2 (loopAt Try.f21 2) L_laws_markInt64S_2_sp (fun Φ fr w => LOOP (U := Value) (S := (Int × Int)) ((fun v => v.1) (extT L_laws_markInt64S_2_sp fr)) (L_laws_markInt64S_2_b Φ ((fun v => v.1) (extT L_laws_markInt64S_2_sp fr))) ((fun v => (v.2.1, v.2.2.1)) (extT L_laws_markInt64S_2_sp fr)) w) (fun _ _ _ _ => False)

theorem O_laws_markInt64S_1_ok : Sound Try.prog O_laws_markInt64S_1 :=
  orc_ok (sound_none _) fun Φ fr w hs h => loop_ok (ty := ty) follows (sound_none _) L_laws_markInt64S_2_sp (fun v => v.1) (fun v => (v.2.1, v.2.2.1)) (fun u s => (u, s.1, s.2, ())) (fun _ => rfl) L_laws_markInt64S_2_ex L_laws_markInt64S_2_rt (body := L_laws_markInt64S_2_b Φ) (fun j u s w N hb => by
    have e := L_laws_markInt64S_2_eq j u s N (doorOf Φ (.exit 0) L_laws_markInt64S_2_e0).D (doorOf Φ .ret L_laws_markInt64S_2_rt).D w
    exact Eq.mpr e hb) hs h

def V_laws_markInt64S (a0 : Value) (k1 : Int) (w : World) (K : Int → World → Prop) : Prop :=
  (At (loopAt Try.f21 2) (loopAt Try.f21 2) (LOOP (U := Value) (S := (Int × Int)) (a0 : Value) (fun N_8 s_9 w_10 => B_laws_markInt64S_2 (a0 : Value) s_9.1 s_9.2 N_8 (fun (v_5 : (Int × Unit)) w_6 => ∀ _j_7 : Nat → Value, K v_5.1 w_6) w_10) (k1, (0 : Int)) w))

theorem eq_laws_markInt64S (a0 : Value) (k1 : Int) (w : World) (K : Int → World → Prop) :
    W Try.prog ty O_laws_markInt64S_1 (bodyOf Try.f21) (fnPost Try.prog Try.f21.results.toList (.one (.int .i64)) K) (frame0 [a0, (.int .i64 k1)] 19) w = V_laws_markInt64S a0 k1 w K := by
  kernel_rfl

theorem body_laws_markInt64S : Try.f21.body = some (bodyOf Try.f21) := by kernel_rfl
theorem name_laws_markInt64S : (Try.f21.name == "runtime.NumGoroutine") = false := by kernel_rfl

theorem walk_laws_markInt64S (a0 : Value) (k1 : Int) {w : World} {K : Int → World → Prop} (h : V_laws_markInt64S a0 k1 w K) : Fc Try.prog 21 #[a0, (.int .i64 k1)] w (.one (.int .i64)) K :=
  fn_ok follows O_laws_markInt64S_1_ok Try.func21 name_laws_markInt64S body_laws_markInt64S Try.ntmps21 [a0, (.int .i64 k1)] (Eq.mpr (eq_laws_markInt64S a0 k1 w K) h)

-- uses S2Sl
theorem c_laws_markInt64S {a : Value} {l : List Int} {k : Int} {B E : Nat} {w : World} {K : Int → World → Prop} (h : MyI B E w a l) (h0 : 0 ≤ k) (h1 : k ≤ 4398046511104)
    (hK : ∀ w', ModR B E w w' → MyI B E w' a (upto k l.length) → K (k + l.length) w') :
    Fc Try.prog F_laws_markInt64S #[a, .int .i64 k] w (.one (.int .i64)) K := by
  refine walk_laws_markInt64S _ _ ?_
  have hl := h.len
  rcases h with ⟨_, ⟨rfl, rfl⟩ | ⟨b, hb, he, ho⟩⟩
  · refine lp (fun s w' => s = (k, 0) ∧ w' = w) (fun _ _ => 0) ⟨rfl, rfl⟩ ?_
    rintro s w' N ⟨rfl, rfl⟩ hN
    unfold B_laws_markInt64S_2
    refine lenI (slI_nil w') ⟨fun h => by simp at h, fun _ _ => ?_⟩
    simpa [upto, myI_nil] using hK w' (ModR.refl _ _ _) (by simp [upto, myI_nil])
  · have hlen : ∀ i : Nat, i ≤ l.length → (upto k i ++ l.drop i).length = l.length := fun i hi => by simp [upto]; omega
    refine lp (fun s w' => 0 ≤ s.2 ∧ s.2 ≤ l.length ∧ s.1 = k + s.2 ∧ Mod [b] w w' ∧ OwnI w' b a (upto k s.2.toNat ++ l.drop s.2.toNat)) (fun s _ => (l.length - s.2).toNat)
      ⟨by simp, by simp, by simp, Mod.refl _ _, by simpa [upto] using ho⟩ ?_
    rintro ⟨k', i⟩ w' N ⟨i0, i1, hk, hm, hO⟩ hN
    simp only at i0 i1 hk hO
    subst hk
    unfold B_laws_markInt64S_2
    have hL := hlen i.toNat (by omega)
    refine lenI (own_slI hO (by omega)) ⟨fun hlt => ?_, fun hge => ?_⟩
    · rw [hL] at hlt
      have hlt := of_decide_eq_true hlt
      refine putI hO i0 (by omega) fun w2 m hs hO2 => ?_
      simp only
      rw [wrap_small (by omega) (by omega), wrap_small (by omega) (by omega)]
      refine hN _ _ ⟨by simp; omega, by simp; omega, by simp; omega, hm.trans m, ?_⟩ (by simp; omega)
      have : (upto k i.toNat ++ l.drop i.toNat).set i.toNat (k + i) = upto k (i + 1).toNat ++ l.drop (i + 1).toNat := by
        have := fill_step (xs := upto k l.length) (zs := l) (i := i.toNat) (by simp [upto]; omega) (by simp [upto])
        have ht : ∀ n, n ≤ l.length → (upto k l.length).take n = upto k n := fun n hn => by
          unfold upto
          rw [← List.map_take, List.take_range, Nat.min_eq_left hn]
        rw [ht _ (by omega), ht _ (by omega)] at this
        rw [show (i + 1).toNat = i.toNat + 1 from by omega, ← this]
        congr 1
        simp [upto, show i.toNat < l.length from by omega]
        omega
      rw [this] at hO2
      exact hO2
    · rw [hL] at hge
      have hge := of_decide_eq_false hge
      intro _
      have : i = l.length := by omega
      subst this
      rw [show ((l.length : Int)).toNat = l.length from by omega, List.drop_length, List.append_nil] at hO
      exact hK w' (hm.r hb he) (own_my hO (by simp [upto]; omega) hb he)

end Go.Proofs.Ytkadckhealbdaaa

/- The reading of laws_toByteA136, and its contract. No condition. -/
namespace Go.Proofs.Ytkadckhealbdaaa
open Go Go.RowKit Eng Mem
set_option linter.unusedVariables false
set_option maxRecDepth 100000
def B_laws_toByteA136_3 (a1 : Value) (x2 : Value) (out3 : Value) (i4 : Int) (N : (Value × Value × Value) → Int → World → Prop) (D0 : (Value × Value × Unit) → World → Prop) (w : World) : Prop :=
  (((decide (i4 < (136 : Int))) = true → (QAll Try.prog (Instr.indexAt 22 a1 (.int .i64 i4)) .any fun (x11_7 : Value) => (QSub Try.prog (Instr.loadAt 5 x11_7) w (.int .u8) fun (x12_8 : Int) => (QAll Try.prog (Instr.indexAt 22 out3 (.int .i64 i4)) .any fun (x13_9 : Value) => (PrU Try.prog (Instr.storeAt 5 x13_9 (.int .u8 x12_8)) w fun w_10 => N ((a1 : Value), (x2 : Value), (out3 : Value)) (IntKind.i64.wrap (i4 + (1 : Int))) w_10))))) ∧ ((decide (i4 < (136 : Int))) = false → D0 ((x2 : Value), (out3 : Value), ()) w))

abbrev L_laws_toByteA136_3_e0 : List Slot := [.junk, .junk, .k .any, .k .any, .junk, .junk, .junk, .junk, .junk, .junk, .junk, .junk, .junk, .junk, .junk]

abbrev L_laws_toByteA136_3_sp : List Slot := [.junk, .k .any, .k .any, .k .any, .k (.int .i64), .junk, .junk, .junk, .junk, .junk, .junk, .junk, .junk, .junk, .junk]
abbrev L_laws_toByteA136_3_ex : List (Nat × List Slot) := [(0, L_laws_toByteA136_3_e0)]
abbrev L_laws_toByteA136_3_rt : List Slot := [.junk, .junk, .junk, .junk, .junk, .junk, .junk, .junk, .junk, .junk, .junk, .junk, .junk, .junk, .junk]

def L_laws_toByteA136_3_b (Φ : Post) (u : (Value × Value × Value)) (N : (Value × Value × Value) → Int → World → Prop) (s : Int) (w : World) : Prop :=
  B_laws_toByteA136_3 u.1 u.2.1 u.2.2 s N (fun v w => ∀ j : Nat → Value, Φ (.exit 0) (mkT j 0 L_laws_toByteA136_3_e0 v) w) w

theorem L_laws_toByteA136_3_eq (j : Nat → Value) (u : (Value × Value × Value)) (s : Int) (N : (Value × Value × Value) → Int → World → Prop) (D0 : (Value × Value × Unit) → World → Prop) (R : (Unit) → World → Prop) (w : World) :
    W Try.prog ty (fun _ _ _ _ => False) (loopAt Try.f45 3) (loopPost L_laws_toByteA136_3_sp [(0, (⟨L_laws_toByteA136_3_e0, D0⟩ : Door))] ⟨L_laws_toByteA136_3_rt, R⟩ (fun v w => N ((fun v => (v.1, v.2.1, v.2.2.1)) v) ((fun v => v.2.2.2.1) v) w)) (mkT j 0 L_laws_toByteA136_3_sp ((fun u s => (u.1, u.2.1, u.2.2, s, ())) u s)) w =
    B_laws_toByteA136_3 u.1 u.2.1 u.2.2 s N D0 w := by
  kernel_rfl

def O_laws_toByteA136_1 : Code → Post → List SV → World → Prop :=
  orc 3 (loopAt Try.f45 3) L_laws_toByteA136_3_sp (fun Φ fr w => LOOP (U := (Value × Value × Value)) (S := Int) ((fun v => (v.1, v.2.1, v.2.2.1)) (extT L_laws_toByteA136_3_sp fr)) (L_laws_toByteA136_3_b Φ ((fun v => (v.1, v.2.1, v.2.2.1)) (extT L_laws_toByteA136_3_sp fr))) ((fun v => v.2.2.2.1) (extT L_laws_toByteA136_3_sp fr)) w) (fun _ _ _ _ => False)

theorem O_laws_toByteA136_1_ok : Sound Try.prog O_laws_toByteA136_1 :=
  orc_ok (sound_none _) fun Φ fr w hs h => loop_ok (ty := ty) follows (sound_none _) L_laws_toByteA136_3_sp (fun v => (v.1, v.2.1, v.2.2.1)) (fun v => v.2.2.2.1) (fun u s => (u.1, u.2.1, u.2.2, s, ())) (fun _ => rfl) L_laws_toByteA136_3_ex L_laws_toByteA136_3_rt (body := L_laws_toByteA136_3_b Φ) (fun j u s w N hb => by
    have e := L_laws_toByteA136_3_eq j u s N (doorOf Φ (.exit 0) L_laws_toByteA136_3_e0).D (doorOf Φ .ret L_laws_toByteA136_3_rt).D w
    exact Eq.mpr e hb) hs h

def V_laws_toByteA136 (a0 : Value) (w : World) (K : Value → World → Prop) : Prop :=
  (Pr Try.prog (Instr.box 22 a0) w (.one .any) fun (a1_2 : Value) w_1 => (Pr Try.prog (Instr.alloc 22 true (.tuple #[])) w_1 (.one .any) fun (x2_4 : Value) w_3 => (Pr Try.prog (Instr.alloc 22 true (.tuple #[])) w_3 (.one .any) fun (out3_6 : Value) w_5 => (At (loopAt Try.f45 3) (loopAt Try.f45 3) (LOOP (U := (Value × Value × Value)) (S := Int) ((a1_2 : Value), (x2_4 : Value), (out3_6 : Value)) (fun N_19 s_20 w_21 => B_laws_toByteA136_3 (a1_2 : Value) (x2_4 : Value) (out3_6 : Value) s_20 N_19 (fun (v_12 : (Value × Value × Unit)) w_13 => ∀ _j_14 : Nat → Value, (QSub Try.prog (Instr.loadAt 22 v_12.2.1) w_13 .any fun (x14_15 : Value) => (PrU Try.prog (Instr.storeAt 22 v_12.1 x14_15) w_13 fun w_16 => (QSub Try.prog (Instr.loadAt 22 v_12.1) w_16 .any fun (r_18 : Value) => K (r_18 : Value) w_16)))) w_21) (0 : Int) w_5)))))

theorem eq_laws_toByteA136 (a0 : Value) (w : World) (K : Value → World → Prop) :
    W Try.prog ty O_laws_toByteA136_1 (bodyOf Try.f45) (fnPost Try.prog Try.f45.results.toList (.one .any) K) (frame0 [a0] 15) w = V_laws_toByteA136 a0 w K := by
  kernel_rfl

theorem body_laws_toByteA136 : Try.f45.body = some (bodyOf Try.f45) := by kernel_rfl
theorem name_laws_toByteA136 : (Try.f45.name == "runtime.NumGoroutine") = false := by kernel_rfl

theorem walk_laws_toByteA136 (a0 : Value) {w : World} {K : Value → World → Prop} (h : V_laws_toByteA136 a0 w K) : Fc Try.prog 45 #[a0] w (.one .any) K :=
  fn_ok follows O_laws_toByteA136_1_ok Try.func45 name_laws_toByteA136 body_laws_toByteA136 Try.ntmps45 [a0] (Eq.mpr (eq_laws_toByteA136 a0 w K) h)

-- uses S1Col
theorem c_laws_toByteA136 {es : List Int} {w : World} {K : Value → World → Prop} (h : es.length = 136) (hK : ∀ w', Below w.heap.size w w' → K (.agg (es.map (Value.int .u8)).toArray) w') :
    Fc Try.prog F_laws_toByteA136 #[.agg (es.map (Value.int .u8)).toArray] w (.one .any) K := by
  have hl : (es.map (Value.int .u8)).length = zA.length := by simp [h, zA]
  have one : ∀ v ∈ es.map (Value.int .u8), v.oneCell' = true := fun v hv => by
    obtain ⟨e, _, rfl⟩ := List.mem_map.1 hv; rfl
  refine walk_laws_toByteA136 _ ?_
  refine box (es.map (Value.int .u8)) rfl fun b1 w1 n1 => allocA yA fun b2 w2 n2 => allocA yA fun b3 w3 n3 => ?_
  have r1 : Row w3 (ptr b1 0) (es.map (Value.int .u8)) := ((row_all n1.at_).keep n2.below).keep n3.below
  have hlt1 := at_lt n1.at_
  have hb0 : Below w.heap.size w w3 := (n1.below.trans (n2.below.mono n1.below.size)).trans (n3.below.mono (n1.below.trans (n2.below.mono n1.below.size)).size)
  have e1 := n1.here; have e2 := n2.here; have e3 := n3.here; have s1 := n1.size; have s2 := n2.size
  refine lp (fun i w' => 0 ≤ i ∧ i ≤ 136 ∧ Mod [b3] w3 w' ∧ Blk w' b3 ((es.map (Value.int .u8)).take i.toNat ++ zA.drop i.toNat) tA) (fun i _ => (136 - i).toNat)
    ⟨by omega, by omega, Mod.refl _ _, by simpa using n3.at_⟩ ?_
  rintro i w' N ⟨h0, hi, hm, hblk⟩ hN
  have r1' : Row w' (ptr b1 0) (es.map (Value.int .u8)) := r1.mod hm (by simp; omega)
  unfold B_laws_toByteA136_3
  refine ⟨fun hlt => ?_, fun hge => ?_⟩
  · have hlt := of_decide_eq_true hlt
    have hie : i.toNat < es.length := by omega
    refine ixR yR r1'.isPtr h0 hlt (ld (x := es[i.toNat]) yB (by rw [Nat.mul_one]; exact r1'.get _ (by simp [hie])) ?_)
    refine ixRp yR h0 hlt ?_
    have hlen : ((es.map (Value.int .u8)).take i.toNat ++ zA.drop i.toNat).length = 136 := by simp [h, zA]; omega
    refine st yB hblk (by omega) rfl fun w'' m hs hb => ?_
    rw [Nat.zero_add] at hb
    rw [wrap_small (by omega) (by omega)]
    refine hN _ _ ⟨by omega, by omega, hm.trans m, ?_⟩ (by omega)
    have this := fill_step (xs := es.map (Value.int .u8)) (zs := zA) (i := i.toNat) (by simpa using hie) hl
    rw [List.getElem_map] at this
    rw [show (i + 1).toNat = i.toNat + 1 from by omega, ← this]
    exact hb
  · have hge := of_decide_eq_false hge
    have hi136 : i = 136 := by omega
    subst hi136
    intro _
    have hfull : (es.map (Value.int .u8)).take (136 : Int).toNat ++ zA.drop (136 : Int).toNat = es.map (Value.int .u8) := by
      rw [show (136 : Int).toNat = 136 from rfl, List.take_of_length_le (by simp [h]), List.drop_of_length_le (by simp [zA])]
      simp
    rw [hfull] at hblk
    refine ldA yA hl (blk_row hblk) ?_
    have a2 : Blk w' b2 zA tA := hm.at_ (n3.mod.at_ n2.at_ (by simp)) (by simp; omega)
    refine stA0 yA a2 hl hl one fun w'' m hs hb => ?_
    refine ldA yA hl (blk_row hb) ?_
    refine hK w'' ?_
    have s0 := hb0.size
    have s4 := hm.size
    exact (hb0.trans (hm.below (by omega) (by simp; omega))).trans (m.below (by omega) (by simp; omega))

end Go.Proofs.Ytkadckhealbdaaa

/- The reading of laws_toColouring, and its contract. No condition. -/
namespace Go.Proofs.Ytkadckhealbdaaa
open Go Go.RowKit Eng Mem
set_option linter.unusedVariables false
set_option maxRecDepth 100000
def V_laws_toColouring (a0 : Value) (w : World) (K : Value → World → Prop) : Prop :=
  (Pr Try.prog (Instr.box 24 a0) w (.one .any) fun (a1_2 : Value) w_1 => (Pr Try.prog (Instr.alloc 25 true (.tuple #[])) w_1 (.one .any) fun (x2_4 : Value) w_3 => (Pr Try.prog (Instr.alloc 25 true (.tuple #[])) w_3 (.one .any) fun (out3_6 : Value) w_5 => (QAll Try.prog (Instr.fieldAt 24 a1_2 0) .any fun (x4_7 : Value) => (QSub Try.prog (Instr.loadAt 2 x4_7) w_5 (.int .i64) fun (x5_8 : Int) => (QAll Try.prog (Instr.fieldAt 25 out3_6 0) .any fun (x6_9 : Value) => (PrU Try.prog (Instr.storeAt 2 x6_9 (.int .i64 x5_8)) w_5 fun w_10 => (QAll Try.prog (Instr.fieldAt 24 a1_2 1) .any fun (x7_12 : Value) => (QSub Try.prog (Instr.loadAt 2 x7_12) w_10 (.int .i64) fun (x8_13 : Int) => (QAll Try.prog (Instr.fieldAt 25 out3_6 1) .any fun (x9_14 : Value) => (PrU Try.prog (Instr.storeAt 2 x9_14 (.int .i64 x8_13)) w_10 fun w_15 => (QAll Try.prog (Instr.fieldAt 24 a1_2 2) .any fun (x10_17 : Value) => (QSub Try.prog (Instr.loadAt 22 x10_17) w_15 .any fun (x11_18 : Value) => (Fc Try.prog 45 #[x11_18] w_15 (.one .any) fun (x12_20 : Value) w_19 => (QAll Try.prog (Instr.fieldAt 25 out3_6 2) .any fun (x13_21 : Value) => (PrU Try.prog (Instr.storeAt 22 x13_21 x12_20) w_19 fun w_22 => (QSub Try.prog (Instr.loadAt 25 out3_6) w_22 .any fun (x14_24 : Value) => (PrU Try.prog (Instr.storeAt 25 x2_4 x14_24) w_22 fun w_25 => (QSub Try.prog (Instr.loadAt 25 x2_4) w_25 .any fun (r_27 : Value) => K (r_27 : Value) w_25)))))))))))))))))))

theorem eq_laws_toColouring (a0 : Value) (w : World) (K : Value → World → Prop) :
    W Try.prog ty (fun _ _ _ _ => False) (bodyOf Try.f15) (fnPost Try.prog Try.f15.results.toList (.one .any) K) (frame0 [a0] 15) w = V_laws_toColouring a0 w K := by
  kernel_rfl

theorem body_laws_toColouring : Try.f15.body = some (bodyOf Try.f15) := by kernel_rfl
theorem name_laws_toColouring : (Try.f15.name == "runtime.NumGoroutine") = false := by kernel_rfl

theorem walk_laws_toColouring (a0 : Value) {w : World} {K : Value → World → Prop} (h : V_laws_toColouring a0 w K) : Fc Try.prog 15 #[a0] w (.one .any) K :=
  fn_ok follows (sound_none _) Try.func15 name_laws_toColouring body_laws_toColouring Try.ntmps15 [a0] (Eq.mpr (eq_laws_toColouring a0 w K) h)

-- uses S1Col
theorem c_laws_toColouring {c : Col} {w : World} {K : Value → World → Prop} (h : c.Ok) (hK : ∀ w', Below w.heap.size w w' → K c.val w') :
    Fc Try.prog F_laws_toColouring #[c.val] w (.one .any) K := by
  refine walk_laws_toColouring _ ?_
  refine box c.cells rfl fun b1 w1 n1 => allocA yC fun b2 w2 n2 => allocA yC fun b3 w3 n3 => ?_
  have r1 : ColAt w3 (ptr b1 0) c := ((row_all n1.at_).keep n2.below).keep n3.below
  have e1 := n1.here; have e2 := n2.here; have e3 := n3.here; have s1 := n1.size; have s2 := n2.size; have s3 := n3.size
  have hb0 : Below w.heap.size w w3 := (n1.below.trans (n2.below.mono n1.below.size)).trans (n3.below.mono (n1.below.trans (n2.below.mono n1.below.size)).size)
  have hzl : zC.length = 138 := by simp [zC, zA]
  refine fld g0 r1.nonnil r1.isPtr (ld yI (r1.get 0 rfl) (fldp f0 (st yI n3.at_ (by omega) rfl fun w4 m4 s4 h4 => ?_)))
  have r4 : ColAt w4 (ptr b1 0) c := r1.mod m4 (by simp; omega)
  refine fld g1 r4.nonnil r4.isPtr (ld yI (r4.get 1 rfl) (fldp f1 (st yI h4 (by simp; omega) rfl fun w5 m5 s5 h5 => ?_)))
  have r5 : ColAt w5 (ptr b1 0) c := r4.mod m5 (by simp; omega)
  refine fld g2 r5.nonnil r5.isPtr (ldA yA h.es_len (Col.es_row r5) (c_laws_toByteA136 h.len fun w6 hb6 => ?_))
  have h6 := below_at hb6 h5 (by omega)
  refine fldp f2 (stA yA _ h6 h.es_len (by simp [h.len]; omega) (fun v hv => by obtain ⟨e, _, rfl⟩ := List.mem_map.1 hv; rfl) fun w7 m7 s7 h7 => ?_)
  have hz : zC = .int .i64 0 :: .int .i64 0 :: zA := rfl
  have hcells : List.take (0 + 2) ((zC.set (0 + 0) (.int .i64 c.n)).set (0 + 1) (.int .i64 c.k)) ++ c.es.map (Value.int .u8) ++ List.drop (0 + 2 + (c.es.map (Value.int .u8)).length) ((zC.set (0 + 0) (.int .i64 c.n)).set (0 + 1) (.int .i64 c.k)) = c.cells := by
    rw [List.drop_of_length_le (by simp [h.len]; omega), hz]
    simp [Col.cells]
  rw [hcells] at h7
  have x7 := m7.at_ (below_at hb6 (m5.at_ (m4.at_ (n3.mod.at_ n2.at_ (by simp)) (by simp; omega)) (by simp; omega)) (by omega)) (show b2 ∉ [b3] by simp; omega)
  refine ldA yC h.cells_len (blk_row h7) (stA0 yC x7 h.cells_len h.cells_len c.cells_one fun w8 m8 s8 h8 => ldA yC h.cells_len (blk_row h8) ?_)
  refine hK w8 ?_
  have s6 := hb6.size
  exact ((((hb0.trans (m4.below (by omega) (by simp; omega))).trans (m5.below (by omega) (by simp; omega))).trans (hb6.mono (by omega))).trans (m7.below (by omega) (by simp; omega))).trans (m8.below (by omega) (by simp; omega))

end Go.Proofs.Ytkadckhealbdaaa

/- What DigitalOf, ColouringOfPart and BySquares answer. No condition. -/
namespace Go.Proofs.Ytkadckhealbdaaa
open Go Go.RowKit Eng Mem
set_option maxRecDepth 100000
def digG (l : List Int) : Int → Int → Int := fun i j => l.getD (xr i j - 1).toNat 0
def DigIs (d k : Int) (l : List Int) : Prop := (1 ≤ d ∧ d ≤ 4) ∧ (1 ≤ k ∧ k ≤ 4) ∧ (l.length : Int) = 2 ^ d.toNat - 1 ∧ AllIn l 0 (k - 1)
instance (d k : Int) (l : List Int) : Decidable (DigIs d k l) := by unfold DigIs; infer_instance
def digOf (d k : Int) (l : List Int) : Col × Int := if DigIs d k l then (colG (2 ^ d.toNat) k (digG l), 0) else (col0, 2)
theorem DigIs.pow {d k : Int} {l : List Int} (h : DigIs d k l) : (1 : Int) ≤ 2 ^ d.toNat ∧ (2 : Int) ^ d.toNat ≤ 16 := by
  obtain ⟨n, hn⟩ : ∃ n, d.toNat = n := ⟨_, rfl⟩
  have := h.1
  have : n = 1 ∨ n = 2 ∨ n = 3 ∨ n = 4 := by omega
  rw [hn]
  rcases this with h | h | h | h <;> subst h <;> simp
theorem DigIs.bd {d k : Int} {l : List Int} (h : DigIs d k l) : ∀ i j : Int, 0 ≤ i → i < j → j < 2 ^ d.toNat → 0 ≤ digG l i j ∧ digG l i j < 256 := fun i j h0 h1 h2 => by
  have hx := xr_bd h0 h1 h2
  have hp := h.pow
  have hl := h.2.2.1
  have := h.2.2.2.get (i := (xr i j - 1).toNat) (by omega)
  have := h.2.1
  unfold digG
  omega
theorem DigIs.ok {d k : Int} {l : List Int} (h : DigIs d k l) : (colG (2 ^ d.toNat) k (digG l)).Ok := by
  have hp := h.pow
  have := h.2.1
  exact colG_ok (by omega) (by omega) ⟨by omega, by omega⟩ h.bd
theorem digOf_ok (d k : Int) (l : List Int) : (digOf d k l).1.Ok := by
  unfold digOf
  split
  · rename_i h; exact h.ok
  · exact col0_ok
def partG (l : List Int) : Int → Int → Int := fun i j => l.getD (j - i - 1).toNat 0
def partOf (k : Int) (l : List Int) : Col × Int := if IsPart k l ∧ l.length ≤ 16 then (colG (l.length + 1) k (partG l), 0) else (col0, 2)
theorem part_in {k : Int} {l : List Int} (h : IsPart k l) : AllIn l 0 255 := fun x hx => by
  have := h.2.2.2 x hx; have := h.2.1; omega
theorem part_ok {k : Int} {l : List Int} (h : IsPart k l) (hl : l.length ≤ 16) : (colG (l.length + 1) k (partG l)).Ok := by
  have h1 := h.1; have h2 := h.2.1
  refine colG_ok (by omega) (by omega) ⟨by omega, by omega⟩ fun i j i0 i1 i2 => ?_
  have := (part_in h).get (i := (j - i - 1).toNat) (by omega)
  unfold partG
  omega
theorem partOf_ok (k : Int) (l : List Int) : (partOf k l).1.Ok := by
  unfold partOf
  split
  · rename_i h; exact part_ok h.1 h.2
  · exact col0_ok
theorem int_u64 {n : Int} {K : Int → Prop} (h0 : 0 ≤ n) (h1 : n < 18446744073709551616) (hK : K n) : QAll Try.prog (convert tI tU (.int .i64 n)) (.int .u64) K :=
  cvt (by rw [Try.underlyingTI]; rfl) Try.underlying102 (by rwa [show IntKind.u64.wrap n = n from IntWalk.u64_in n ⟨h0, by omega⟩])
end Go.Proofs.Ytkadckhealbdaaa

/- Digits in base 2, as the machine has them. No condition. -/
namespace Go.Proofs.Ytkadckhealbdaaa
open Go Go.RowKit Eng Mem
set_option maxRecDepth 100000
theorem wshl' {j : Int} (h0 : 0 ≤ j) (h1 : j < 62) : IntKind.i64.wrap (1 * 2 ^ min (Int.toNat j) 64) = ((2 ^ j.toNat : Nat) : Int) := by
  have e : ((2 : Int) ^ j.toNat) = ((2 ^ j.toNat : Nat) : Int) := by simp
  have : 2 ^ j.toNat ≤ 2 ^ 61 := Nat.pow_le_pow_right (by omega) (by omega)
  rw [Nat.min_eq_left (by omega), Int.one_mul, e]
  generalize 2 ^ j.toNat = t at this
  exact wrap_small (by omega) (by omega)
theorem wshr {u j : Nat} (hu : u < 2 ^ 62) (hj : j < 62) : IntKind.i64.wrap ((BitVec.toNat (BitVec.ofInt (IntKind.bits .i64) (Int.fdiv (u : Int) (2 ^ min (Int.toNat (j : Int)) 64)) &&& BitVec.ofInt (IntKind.bits .i64) 1) : Nat) : Int) = ((u / 2 ^ j % 2 : Nat) : Int) := by
  have e : ((2 : Int) ^ j) = ((2 ^ j : Nat) : Int) := by simp
  have hp : 0 < 2 ^ j := Nat.pow_pos (by omega)
  have hd : Int.fdiv (u : Int) ((2 ^ j : Nat) : Int) = ((u / 2 ^ j : Nat) : Int) := by
    rw [Int.fdiv_eq_ediv_of_nonneg _ (by omega)]
    exact (Int.natCast_ediv u (2 ^ j)).symm
  have hle : u / 2 ^ j ≤ u := Nat.div_le_self _ _
  rw [Int.toNat_natCast, Nat.min_eq_left (by omega), e, hd]
  generalize u / 2 ^ j = q at hle ⊢
  rw [wand (by omega) (by omega) (by omega) (by omega), Int.toNat_natCast]
  congr 1
  exact Nat.and_one_is_mod q
theorem bit_iff (u j : Nat) : (((u / 2 ^ j % 2 : Nat) : Int) == 1) = u.testBit j := by
  rw [Nat.testBit_eq_decide_div_mod_eq]
  have : u / 2 ^ j % 2 < 2 := Nat.mod_lt _ (by omega)
  generalize u / 2 ^ j % 2 = q at this ⊢
  have : q = 0 ∨ q = 1 := by omega
  rcases this with h | h <;> subst h <;> decide
theorem bit_iff0 (u j : Nat) : (((u / 2 ^ j % 2 : Nat) : Int) == 0) = !u.testBit j := by
  rw [Nat.testBit_eq_decide_div_mod_eq]
  have : u / 2 ^ j % 2 < 2 := Nat.mod_lt _ (by omega)
  generalize u / 2 ^ j % 2 = q at this ⊢
  have : q = 0 ∨ q = 1 := by omega
  rcases this with h | h <;> subst h <;> decide
theorem wbor {u j : Nat} (hu : u < 2 ^ 62) (hj : j < 62) : IntKind.i64.wrap ((BitVec.toNat (BitVec.ofInt (IntKind.bits .i64) (u : Int) ||| BitVec.ofInt (IntKind.bits .i64) (IntKind.i64.wrap (1 * 2 ^ min (Int.toNat (j : Int)) 64))) : Nat) : Int) = ((u ||| 2 ^ j : Nat) : Int) := by
  have hp : 2 ^ j ≤ 2 ^ 61 := Nat.pow_le_pow_right (by omega) (by omega)
  rw [wshl' (by omega) (by omega), Int.toNat_natCast]
  generalize 2 ^ j = T at hp ⊢
  rw [wor (by omega) (by omega) (by omega) (by omega), Int.toNat_natCast, Int.toNat_natCast]
end Go.Proofs.Ytkadckhealbdaaa

/- The reference's search for renumberings: its memory. No condition. -/
namespace Go.Proofs.Ytkadckhealbdaaa
open Go Go.RowKit Eng Mem
set_option maxRecDepth 100000
def typesL (x : Col) (m : Nat) : List Int := (List.range m).map fun i : Nat => typeN x i x.k.toNat
theorem typesL_len (x : Col) (m : Nat) : (typesL x m).length = m := by simp [typesL]
theorem typesL_get (x : Col) {m i : Nat} (h : i < m) : (typesL x m).getD i 0 = typeN x i x.k.toNat := by simp [typesL, h]
theorem typesL_succ (x : Col) (m : Nat) : typesL x (m + 1) = typesL x m ++ [typeN x m x.k.toNat] := by simp [typesL, List.range_succ]
structure SrAt (w : World) (b : Nat) (x y : Col) (one two : Value) (most cnt : Int) (first : Value) : Prop where
  blk : Blk w b (srV x y one two most cnt first) tSr
theorem SrAt.keep {w w' : World} {b : Nat} {x y : Col} {one two first : Value} {most cnt : Int} (h : SrAt w b x y one two most cnt first) (q : Below w.heap.size w w') : SrAt w' b x y one two most cnt first := ⟨below_at q h.blk (at_lt h.blk)⟩
theorem SrAt.x {w : World} {b : Nat} {x y : Col} {one two first : Value} {most cnt : Int} (h : SrAt w b x y one two most cnt first) : ColAt w (ptr b 0) x := by
  have := (blk_row h.blk).sub 0 (us := x.cells) fun i hi => by rw [Nat.zero_add]; exact List.getElem?_append_left hi
  simpa [padd, add_none] using this
theorem SrAt.y {w : World} {b : Nat} {x y : Col} {one two first : Value} {most cnt : Int} (hx : x.Ok) (h : SrAt w b x y one two most cnt first) : ColAt w (ptr b 138) y := by
  have lx : x.cells.length = 138 := by simp [Col.cells, hx.len]
  have := (blk_row h.blk).sub 138 (us := y.cells) fun i hi => by
    unfold srV
    rw [List.getElem?_append_right (by omega), lx, show 138 + i - 138 = i from by omega, List.getElem?_append_left hi]
  simpa [padd, add_none] using this
theorem sr_tail {x y : Col} (hx : x.Ok) (hy : y.Ok) (one two : Value) (most cnt : Int) (first : Value) (k : Nat) : (srV x y one two most cnt first)[276 + k]? = [one, two, .int .i64 most, .int .i64 cnt, first][k]? := by
  have lx : x.cells.length = 138 := by simp [Col.cells, hx.len]
  have ly : y.cells.length = 138 := by simp [Col.cells, hy.len]
  unfold srV
  rw [List.getElem?_append_right (by omega), List.getElem?_append_right (by omega), lx, ly, show 276 + k - 138 - 138 = k from by omega]
theorem SrAt.tail {w : World} {b : Nat} {x y : Col} {one two first : Value} {most cnt : Int} (hx : x.Ok) (hy : y.Ok) (h : SrAt w b x y one two most cnt first) (k : Nat) {v : Value} (hv : [one, two, .int .i64 most, .int .i64 cnt, first][k]? = some v) : Cell w (ptr b (276 + k)) v := by
  have := (blk_row h.blk).get (276 + k) (v := v) (by rw [sr_tail hx hy]; exact hv)
  simpa [padd, add_none] using this
theorem SrAt.setc {w' : World} {b : Nat} {x y : Col} {one two first : Value} {most cnt c : Int} (hx : x.Ok) (hy : y.Ok) (h : Blk w' b ((srV x y one two most cnt first).set 279 (.int .i64 c)) tSr) : SrAt w' b x y one two most c first := by
  have lx : x.cells.length = 138 := by simp [Col.cells, hx.len]
  have ly : y.cells.length = 138 := by simp [Col.cells, hy.len]
  refine ⟨?_⟩
  have e : (srV x y one two most cnt first).set 279 (.int .i64 c) = srV x y one two most c first := by
    unfold srV
    rw [List.set_append_right _ _ (by omega), List.set_append_right _ _ (by omega), lx, ly]
    rfl
  rw [← e]; exact h
theorem SrAt.setf {w' : World} {b : Nat} {x y : Col} {one two first v : Value} {most cnt : Int} (hx : x.Ok) (hy : y.Ok) (h : Blk w' b ((srV x y one two most cnt first).set 280 v) tSr) : SrAt w' b x y one two most cnt v := by
  have lx : x.cells.length = 138 := by simp [Col.cells, hx.len]
  have ly : y.cells.length = 138 := by simp [Col.cells, hy.len]
  refine ⟨?_⟩
  have e : (srV x y one two most cnt first).set 280 v = srV x y one two most cnt v := by
    unfold srV
    rw [List.set_append_right _ _ (by omega), List.set_append_right _ _ (by omega), lx, ly]
    rfl
  rw [← e]; exact h
theorem bits_empty (j : Nat) : (0 : Nat).testBit j = decide ((j : Int) ∈ ([] : List Int)) := by simp
theorem bits_more {u : Nat} {p : List Int} {i : Nat} (h : ∀ j, u.testBit j = decide ((j : Int) ∈ p)) (j : Nat) : (u ||| 2 ^ i).testBit j = decide ((j : Int) ∈ p ++ [(i : Int)]) := by
  rw [Nat.testBit_or, h j, Nat.testBit_two_pow]
  by_cases he : i = j
  · subst he; simp
  · simp [he, show (j : Int) ≠ i from by omega]
theorem fits_out {x y : Col} {p : List Int} {j : Int} (h : j ∈ p) : fitsD x y p j = false := by
  unfold fitsD
  refine decide_eq_false fun hh => ?_
  obtain ⟨m, hm, he⟩ := List.getElem_of_mem h
  exact (hh m hm).1 (by simp [List.getD, hm, he])
theorem isoF_len {x y : Col} : ∀ (f : Nat) (p l : List Int), isoF x y f p = some l → l.length = p.length + f
  | 0, p, l, h => by rw [isoF] at h; injection h with h; rw [← h]; rfl
  | f + 1, p, l, h => by
    rw [isoF] at h
    obtain ⟨j, _, h⟩ := List.exists_of_findSome?_eq_some h
    split at h
    · have := isoF_len f _ l h
      simp at this
      omega
    · cases h
theorem iso_len {x y : Col} {l : List Int} (h : isoOf x y = some l) : l.length = x.n.toNat := by
  unfold isoOf at h
  split at h
  · have := isoF_len _ _ _ h
    simpa using this
  · cases h
end Go.Proofs.Ytkadckhealbdaaa

/- The reading of spec_l01In, and its contract. No condition. -/
namespace Go.Proofs.Ytkadckhealbdaaa
open Go Go.RowKit Eng Mem
set_option linter.unusedVariables false
set_option maxRecDepth 100000
def V_spec_l01In (n0 : Int) (low1 : Int) (high2 : Int) (w : World) (K : Bool → World → Prop) : Prop :=
  (((decide (n0 ≥ low1)) = true → K (decide (n0 ≤ high2)) w) ∧ ((decide (n0 ≥ low1)) = false → K false w))

theorem eq_spec_l01In (n0 : Int) (low1 : Int) (high2 : Int) (w : World) (K : Bool → World → Prop) :
    W Try.prog ty (fun _ _ _ _ => False) (bodyOf Try.f43) (fnPost Try.prog Try.f43.results.toList (.one .bool) K) (frame0 [(.int .i64 n0), (.int .i64 low1), (.int .i64 high2)] 15) w = V_spec_l01In n0 low1 high2 w K := by
  kernel_rfl

theorem body_spec_l01In : Try.f43.body = some (bodyOf Try.f43) := by kernel_rfl
theorem name_spec_l01In : (Try.f43.name == "runtime.NumGoroutine") = false := by kernel_rfl

theorem walk_spec_l01In (n0 : Int) (low1 : Int) (high2 : Int) {w : World} {K : Bool → World → Prop} (h : V_spec_l01In n0 low1 high2 w K) : Fc Try.prog 43 #[(.int .i64 n0), (.int .i64 low1), (.int .i64 high2)] w (.one .bool) K :=
  fn_ok follows (sound_none _) Try.func43 name_spec_l01In body_spec_l01In Try.ntmps43 [(.int .i64 n0), (.int .i64 low1), (.int .i64 high2)] (Eq.mpr (eq_spec_l01In n0 low1 high2 w K) h)

theorem c_spec_l01In (n lo hi : Int) {w : World} {K : Bool → World → Prop} (hK : K (decide (lo ≤ n ∧ n ≤ hi)) w) : Fc Try.prog F_spec_l01In #[.int .i64 n, .int .i64 lo, .int .i64 hi] w (.one .bool) K := by
  refine walk_spec_l01In n lo hi ⟨fun h => ?_, fun h => ?_⟩
  · have h := of_decide_eq_true h
    simpa [h] using hK
  · have h := of_decide_eq_false h
    have : ¬ lo ≤ n := h
    simpa [this] using hK

end Go.Proofs.Ytkadckhealbdaaa

/- The reading of spec_l01Is, and its contract. No condition. -/
namespace Go.Proofs.Ytkadckhealbdaaa
open Go Go.RowKit Eng Mem
set_option linter.unusedVariables false
set_option maxRecDepth 100000
def B_spec_l01Is_5 (x1 : Value) (edges3 : Int) (e4 : Int) (N : (Value × Int) → Int → World → Prop) (D0 : (Unit) → World → Prop) (R : (Bool × Unit) → World → Prop) (w : World) : Prop :=
  (((decide (e4 < (136 : Int))) = true → (∀ w_15, Drew w w_15 → (((decide (e4 < edges3)) = true → (QAll Try.prog (Instr.fieldAt 25 x1 2) .any fun (x31_16 : Value) => (QAll Try.prog (Instr.indexAt 22 x31_16 (.int .i64 e4)) .any fun (x32_17 : Value) => (QSub Try.prog (Instr.loadAt 5 x32_17) w_15 (.int .u8) fun (x33_18 : Int) => (QAll Try.prog (convert 5 2 (.int .u8 x33_18)) (.int .i64) fun (x34_19 : Int) => (QAll Try.prog (Instr.fieldAt 25 x1 1) .any fun (x35_20 : Value) => (QSub Try.prog (Instr.loadAt 2 x35_20) w_15 (.int .i64) fun (x36_21 : Int) => (((decide (x34_19 ≥ x36_21)) = true → R (false, ()) w_15) ∧ ((decide (x34_19 ≥ x36_21)) = false → (((decide (e4 ≥ edges3)) = true → (QAll Try.prog (Instr.fieldAt 25 x1 2) .any fun (x45_22 : Value) => (QAll Try.prog (Instr.indexAt 22 x45_22 (.int .i64 e4)) .any fun (x46_23 : Value) => (QSub Try.prog (Instr.loadAt 5 x46_23) w_15 (.int .u8) fun (x47_24 : Int) => (((x47_24 != (0 : Int)) = true → R (false, ()) w_15) ∧ ((x47_24 != (0 : Int)) = false → N ((x1 : Value), edges3) (IntKind.i64.wrap (e4 + (1 : Int))) w_15)))))) ∧ ((decide (e4 ≥ edges3)) = false → N ((x1 : Value), edges3) (IntKind.i64.wrap (e4 + (1 : Int))) w_15))))))))))) ∧ ((decide (e4 < edges3)) = false → (((decide (e4 ≥ edges3)) = true → (QAll Try.prog (Instr.fieldAt 25 x1 2) .any fun (x45_25 : Value) => (QAll Try.prog (Instr.indexAt 22 x45_25 (.int .i64 e4)) .any fun (x46_26 : Value) => (QSub Try.prog (Instr.loadAt 5 x46_26) w_15 (.int .u8) fun (x47_27 : Int) => (((x47_27 != (0 : Int)) = true → R (false, ()) w_15) ∧ ((x47_27 != (0 : Int)) = false → N ((x1 : Value), edges3) (IntKind.i64.wrap (e4 + (1 : Int))) w_15)))))) ∧ ((decide (e4 ≥ edges3)) = false → N ((x1 : Value), edges3) (IntKind.i64.wrap (e4 + (1 : Int))) w_15)))))) ∧ ((decide (e4 < (136 : Int))) = false → D0 () w))

abbrev L_spec_l01Is_5_e0 : List Slot := [.junk, .junk, .junk, .junk, .junk, .junk, .junk, .junk, .junk, .junk, .junk, .junk, .junk, .junk, .junk, .junk, .junk, .junk, .junk, .junk, .junk, .junk, .junk, .junk, .junk, .junk, .junk, .junk, .junk, .junk, .junk, .junk, .junk, .junk, .junk, .junk, .junk, .junk, .junk, .junk, .junk, .junk, .junk, .junk, .junk, .junk, .junk, .junk, .junk, .junk, .junk]

abbrev L_spec_l01Is_5_sp : List Slot := [.junk, .k .any, .junk, .k (.int .i64), .k (.int .i64), .junk, .junk, .junk, .junk, .junk, .junk, .junk, .junk, .junk, .junk, .junk, .junk, .junk, .junk, .junk, .junk, .junk, .junk, .junk, .junk, .junk, .junk, .junk, .junk, .junk, .junk, .junk, .junk, .junk, .junk, .junk, .junk, .junk, .junk, .junk, .junk, .junk, .junk, .junk, .junk, .junk, .junk, .junk, .junk, .junk, .junk]
abbrev L_spec_l01Is_5_ex : List (Nat × List Slot) := [(0, L_spec_l01Is_5_e0)]
abbrev L_spec_l01Is_5_rt : List Slot := [.junk, .junk, .k .bool, .junk, .junk, .junk, .junk, .junk, .junk, .junk, .junk, .junk, .junk, .junk, .junk, .junk, .junk, .junk, .junk, .junk, .junk, .junk, .junk, .junk, .junk, .junk, .junk, .junk, .junk, .junk, .junk, .junk, .junk, .junk, .junk, .junk, .junk, .junk, .junk, .junk, .junk, .junk, .junk, .junk, .junk, .junk, .junk, .junk, .junk, .junk, .junk]

def L_spec_l01Is_5_b (Φ : Post) (u : (Value × Int)) (N : (Value × Int) → Int → World → Prop) (s : Int) (w : World) : Prop :=
  B_spec_l01Is_5 u.1 u.2 s N (fun v w => ∀ j : Nat → Value, Φ (.exit 0) (mkT j 0 L_spec_l01Is_5_e0 v) w) (fun v w => ∀ j : Nat → Value, Φ .ret (mkT j 0 L_spec_l01Is_5_rt v) w) w

theorem L_spec_l01Is_5_eq (j : Nat → Value) (u : (Value × Int)) (s : Int) (N : (Value × Int) → Int → World → Prop) (D0 : (Unit) → World → Prop) (R : (Bool × Unit) → World → Prop) (w : World) :
    W Try.prog ty (fun _ _ _ _ => False) (loopAt Try.f65 5) (loopPost L_spec_l01Is_5_sp [(0, (⟨L_spec_l01Is_5_e0, D0⟩ : Door))] ⟨L_spec_l01Is_5_rt, R⟩ (fun v w => N ((fun v => (v.1, v.2.1)) v) ((fun v => v.2.2.1) v) w)) (mkT j 0 L_spec_l01Is_5_sp ((fun u s => (u.1, u.2, s, ())) u s)) w =
    B_spec_l01Is_5 u.1 u.2 s N D0 R w := by
  kernel_rfl

def O_spec_l01Is_1 : Code → Post → List SV → World → Prop :=
  orc 5 (loopAt Try.f65 5) L_spec_l01Is_5_sp (fun Φ fr w => LOOP (U := (Value × Int)) (S := Int) ((fun v => (v.1, v.2.1)) (extT L_spec_l01Is_5_sp fr)) (L_spec_l01Is_5_b Φ ((fun v => (v.1, v.2.1)) (extT L_spec_l01Is_5_sp fr))) ((fun v => v.2.2.1) (extT L_spec_l01Is_5_sp fr)) w) (fun _ _ _ _ => False)

theorem O_spec_l01Is_1_ok : Sound Try.prog O_spec_l01Is_1 :=
  orc_ok (sound_none _) fun Φ fr w hs h => loop_ok (ty := ty) follows (sound_none _) L_spec_l01Is_5_sp (fun v => (v.1, v.2.1)) (fun v => v.2.2.1) (fun u s => (u.1, u.2, s, ())) (fun _ => rfl) L_spec_l01Is_5_ex L_spec_l01Is_5_rt (body := L_spec_l01Is_5_b Φ) (fun j u s w N hb => by
    have e := L_spec_l01Is_5_eq j u s N (doorOf Φ (.exit 0) L_spec_l01Is_5_e0).D (doorOf Φ .ret L_spec_l01Is_5_rt).D w
    exact Eq.mpr e hb) hs h

def V_spec_l01Is (x0 : Value) (w : World) (K : Bool → World → Prop) : Prop :=
  (Pr Try.prog (Instr.box 25 x0) w (.one .any) fun (x1_2 : Value) w_1 => (QAll Try.prog (Instr.fieldAt 25 x1_2 0) .any fun (x5_3 : Value) => (QSub Try.prog (Instr.loadAt 2 x5_3) w_1 (.int .i64) fun (x6_4 : Int) => (Fc Try.prog 43 #[(.int .i64 x6_4), (.int .i64 (1 : Int)), (.int .i64 (17 : Int))] w_1 (.one .bool) fun (x7_6 : Bool) w_5 => (((!x7_6) = true → K false w_5) ∧ ((!x7_6) = false → (QAll Try.prog (Instr.fieldAt 25 x1_2 1) .any fun (x10_7 : Value) => (QSub Try.prog (Instr.loadAt 2 x10_7) w_5 (.int .i64) fun (x11_8 : Int) => (Fc Try.prog 43 #[(.int .i64 x11_8), (.int .i64 (1 : Int)), (.int .i64 (4 : Int))] w_5 (.one .bool) fun (x12_10 : Bool) w_9 => (((!x12_10) = true → K false w_9) ∧ ((!x12_10) = false → (QAll Try.prog (Instr.fieldAt 25 x1_2 0) .any fun (x15_11 : Value) => (QSub Try.prog (Instr.loadAt 2 x15_11) w_9 (.int .i64) fun (x16_12 : Int) => (QAll Try.prog (Instr.fieldAt 25 x1_2 0) .any fun (x17_13 : Value) => (QSub Try.prog (Instr.loadAt 2 x17_13) w_9 (.int .i64) fun (x18_14 : Int) => ((2 : Int) ≠ 0 ∧ (At (loopAt Try.f65 5) (loopAt Try.f65 5) (LOOP (U := (Value × Int)) (S := Int) ((x1_2 : Value), (IntKind.i64.wrap (Int.tdiv (IntKind.i64.wrap (x16_12 * (IntKind.i64.wrap (x18_14 - (1 : Int))))) (2 : Int)))) (fun N_34 s_35 w_36 => B_spec_l01Is_5 (x1_2 : Value) (IntKind.i64.wrap (Int.tdiv (IntKind.i64.wrap (x16_12 * (IntKind.i64.wrap (x18_14 - (1 : Int))))) (2 : Int))) s_35 N_34 (fun (v_28 : (Unit)) w_29 => ∀ _j_30 : Nat → Value, K true w_29) (fun (v_31 : (Bool × Unit)) w_32 => ∀ _j_33 : Nat → Value, K v_31.1 w_32) w_36) (0 : Int) w_9))))))))))))))))))

theorem eq_spec_l01Is (x0 : Value) (w : World) (K : Bool → World → Prop) :
    W Try.prog ty O_spec_l01Is_1 (bodyOf Try.f65) (fnPost Try.prog Try.f65.results.toList (.one .bool) K) (frame0 [x0] 51) w = V_spec_l01Is x0 w K := by
  kernel_rfl

theorem body_spec_l01Is : Try.f65.body = some (bodyOf Try.f65) := by kernel_rfl
theorem name_spec_l01Is : (Try.f65.name == "runtime.NumGoroutine") = false := by kernel_rfl

theorem walk_spec_l01Is (x0 : Value) {w : World} {K : Bool → World → Prop} (h : V_spec_l01Is x0 w K) : Fc Try.prog 65 #[x0] w (.one .bool) K :=
  fn_ok follows O_spec_l01Is_1_ok Try.func65 name_spec_l01Is body_spec_l01Is Try.ntmps65 [x0] (Eq.mpr (eq_spec_l01Is x0 w K) h)

-- uses S1Col
theorem c_spec_l01Is {c : Col} {w : World} {K : Bool → World → Prop} (h : c.Ok) (hK : ∀ w', Below w.heap.size w w' → K (decide c.Is) w') :
    Fc Try.prog F_spec_l01Is #[c.val] w (.one .bool) K := by
  have no : ∀ w', Below w.heap.size w w' → ¬ c.Is → K false w' := fun w' hb hn => by rw [← Col.is_false hn]; exact hK w' hb
  refine walk_spec_l01Is c.val ?_
  refine col_box fun b w1 hn hx => ?_
  have hb1 := hn.below
  refine col_n hx (c_spec_l01In _ _ _ ⟨fun h1 => ?_, fun h1 => ?_⟩)
  · exact no w1 hb1 fun hi => by simp [hi.1, hi.2.1] at h1
  have h1 : 1 ≤ c.n ∧ c.n ≤ 17 := by simpa using h1
  refine col_k hx (c_spec_l01In _ _ _ ⟨fun h2 => ?_, fun h2 => ?_⟩)
  · exact no w1 hb1 fun hi => by simp [hi.2.2.1, hi.2.2.2.1] at h2
  have h2 : 1 ≤ c.k ∧ c.k ≤ 4 := by simpa using h2
  refine col_n hx (col_n hx ⟨by decide, ?_⟩)
  rw [wedges (by omega) h1.2]
  have hed := edges_le h1.1 h1.2
  refine ⟨rfl, ⟨⟨fun i w' => 0 ≤ i ∧ i ≤ 136 ∧ Below w1.heap.size w1 w' ∧ ∀ j : Nat, (j : Int) < i → c.at_ j, fun i _ => (136 - i).toNat, ⟨by omega, by omega, Below.refl _ _, fun j hj => by omega⟩, ?_⟩⟩⟩
  rintro i w' ⟨h0, hi, hb, hall⟩
  unfold B_spec_l01Is_5
  refine ⟨fun hlt => ?_, fun hge => ?_⟩
  · have hlt := of_decide_eq_true hlt
    intro w2 hd
    have hb2 := hb.trans (hd.below _)
    have hx' := hx.keep hb2
    have hbd := h.e_bd i.toNat
    have hit : ((i.toNat : Nat) : Int) = i := by omega
    have next : c.at_ i.toNat → (0 ≤ i + 1 ∧ i + 1 ≤ 136 ∧ Below w1.heap.size w1 w2 ∧ ∀ j : Nat, (j : Int) < i + 1 → c.at_ j) ∧ (136 - (i + 1)).toNat < (136 - i).toNat := fun ha =>
      ⟨⟨by omega, by omega, hb2, fun j hj => by
        by_cases hji : (j : Int) < i
        · exact hall j hji
        · have : j = i.toNat := by omega
          subst this; exact ha⟩, by omega⟩
    have fail : ¬ c.at_ i.toNat → K false w2 := fun hn => no w2 (hb1.trans (hb2.mono hb1.size)) fun hI => hn (hI.2.2.2.2 i.toNat (by omega))
    refine ⟨fun he => ?_, fun he => ?_⟩
    · have he := of_decide_eq_true he
      refine col_e h hx' h0 hlt (u8_int hbd.1 hbd.2 (col_k hx' ⟨fun hc => ?_, fun hc => ⟨fun hg => ?_, fun _ => ?_⟩⟩))
      · have hc := of_decide_eq_true hc
        refine fun _ => fail fun ha => ?_
        unfold Col.at_ at ha
        rw [if_pos (by omega)] at ha
        omega
      · have hg := of_decide_eq_true hg
        omega
      · have hc := of_decide_eq_false hc
        rw [wrap_small (by omega) (by omega)]
        exact ⟨rfl, next (by unfold Col.at_; rw [if_pos (by omega)]; omega)⟩
    · have he := of_decide_eq_false he
      refine ⟨fun _ => col_e h hx' h0 hlt ⟨fun hz => ?_, fun hz => ?_⟩, fun hg => ?_⟩
      · refine fun _ => fail fun ha => ?_
        unfold Col.at_ at ha
        rw [if_neg (by omega)] at ha
        simp [ha] at hz
      · rw [wrap_small (by omega) (by omega)]
        exact ⟨rfl, next (by unfold Col.at_; rw [if_neg (by omega)]; simpa using hz)⟩
      · have hg := of_decide_eq_false hg
        omega
  · have hge := of_decide_eq_false hge
    intro _
    have : c.Is := ⟨h1.1, h1.2, h2.1, h2.2, fun j hj => hall j (by omega)⟩
    rw [← Col.is_true this]
    exact hK w' (hb1.trans (hb.mono hb1.size))

end Go.Proofs.Ytkadckhealbdaaa

/- The reading of spec_l01Edge, and its contract. No condition. -/
namespace Go.Proofs.Ytkadckhealbdaaa
open Go Go.RowKit Eng Mem
set_option linter.unusedVariables false
set_option maxRecDepth 100000
def V_spec_l01Edge (i0 : Int) (j1 : Int) (w : World) (K : Int → World → Prop) : Prop :=
  (((decide (i0 > j1)) = true → ((2 : Int) ≠ 0 ∧ K (IntKind.i64.wrap ((IntKind.i64.wrap (Int.tdiv (IntKind.i64.wrap (i0 * (IntKind.i64.wrap (i0 - (1 : Int))))) (2 : Int))) + j1)) w)) ∧ ((decide (i0 > j1)) = false → ((2 : Int) ≠ 0 ∧ K (IntKind.i64.wrap ((IntKind.i64.wrap (Int.tdiv (IntKind.i64.wrap (j1 * (IntKind.i64.wrap (j1 - (1 : Int))))) (2 : Int))) + i0)) w)))

theorem eq_spec_l01Edge (i0 : Int) (j1 : Int) (w : World) (K : Int → World → Prop) :
    W Try.prog ty (fun _ _ _ _ => False) (bodyOf Try.f128) (fnPost Try.prog Try.f128.results.toList (.one (.int .i64)) K) (frame0 [(.int .i64 i0), (.int .i64 j1)] 22) w = V_spec_l01Edge i0 j1 w K := by
  kernel_rfl

theorem body_spec_l01Edge : Try.f128.body = some (bodyOf Try.f128) := by kernel_rfl
theorem name_spec_l01Edge : (Try.f128.name == "runtime.NumGoroutine") = false := by kernel_rfl

theorem walk_spec_l01Edge (i0 : Int) (j1 : Int) {w : World} {K : Int → World → Prop} (h : V_spec_l01Edge i0 j1 w K) : Fc Try.prog 128 #[(.int .i64 i0), (.int .i64 j1)] w (.one (.int .i64)) K :=
  fn_ok follows (sound_none _) Try.func128 name_spec_l01Edge body_spec_l01Edge Try.ntmps128 [(.int .i64 i0), (.int .i64 j1)] (Eq.mpr (eq_spec_l01Edge i0 j1 w K) h)

-- uses S5Made
theorem c_spec_l01Edge {i j : Int} {w : World} {K : Int → World → Prop} (h0 : 0 ≤ i) (h1 : i ≤ 17) (k0 : 0 ≤ j) (k1 : j ≤ 17) (hK : K (num i j) w) : Fc Try.prog F_spec_l01Edge #[.int .i64 i, .int .i64 j] w (.one (.int .i64)) K := by
  refine walk_spec_l01Edge _ _ ⟨fun h => ⟨by decide, ?_⟩, fun h => ⟨by decide, ?_⟩⟩
  · have h := dec_t h
    rw [wnum k0 k1 h0 h1]
    unfold num at hK
    rwa [if_neg (by omega)] at hK
  · have h := dec_f h
    rw [wnum h0 h1 k0 k1]
    unfold num at hK
    by_cases h' : i < j
    · rwa [if_pos h'] at hK
    · have : i = j := by omega
      subst this
      rwa [if_neg h'] at hK

end Go.Proofs.Ytkadckhealbdaaa

/- The reading of spec_l01At, and its contract. No condition. -/
namespace Go.Proofs.Ytkadckhealbdaaa
open Go Go.RowKit Eng Mem
set_option linter.unusedVariables false
set_option maxRecDepth 100000
def V_spec_l01At (x0 : Value) (i1 : Int) (j2 : Int) (w : World) (K : Int → World → Prop) : Prop :=
  (Pr Try.prog (Instr.box 25 x0) w (.one .any) fun (x3_2 : Value) w_1 => (Fc Try.prog 128 #[(.int .i64 i1), (.int .i64 j2)] w_1 (.one (.int .i64)) fun (x9_4 : Int) w_3 => (QAll Try.prog (Instr.fieldAt 25 x3_2 2) .any fun (x10_5 : Value) => (QAll Try.prog (Instr.indexAt 22 x10_5 (.int .i64 x9_4)) .any fun (x11_6 : Value) => (QSub Try.prog (Instr.loadAt 5 x11_6) w_3 (.int .u8) fun (x12_7 : Int) => (QAll Try.prog (convert 5 2 (.int .u8 x12_7)) (.int .i64) fun (x13_8 : Int) => K x13_8 w_3))))))

theorem eq_spec_l01At (x0 : Value) (i1 : Int) (j2 : Int) (w : World) (K : Int → World → Prop) :
    W Try.prog ty (fun _ _ _ _ => False) (bodyOf Try.f118) (fnPost Try.prog Try.f118.results.toList (.one (.int .i64)) K) (frame0 [x0, (.int .i64 i1), (.int .i64 j2)] 14) w = V_spec_l01At x0 i1 j2 w K := by
  kernel_rfl

theorem body_spec_l01At : Try.f118.body = some (bodyOf Try.f118) := by kernel_rfl
theorem name_spec_l01At : (Try.f118.name == "runtime.NumGoroutine") = false := by kernel_rfl

theorem walk_spec_l01At (x0 : Value) (i1 : Int) (j2 : Int) {w : World} {K : Int → World → Prop} (h : V_spec_l01At x0 i1 j2 w K) : Fc Try.prog 118 #[x0, (.int .i64 i1), (.int .i64 j2)] w (.one (.int .i64)) K :=
  fn_ok follows (sound_none _) Try.func118 name_spec_l01At body_spec_l01At Try.ntmps118 [x0, (.int .i64 i1), (.int .i64 j2)] (Eq.mpr (eq_spec_l01At x0 i1 j2 w K) h)

-- uses S5Made
theorem c_spec_l01At {c : Col} {i j : Int} {w : World} {K : Int → World → Prop} (hc : c.Ok) (h0 : 0 ≤ i) (h1 : i < 17) (k0 : 0 ≤ j) (k1 : j < 17) (hne : i ≠ j) (hK : ∀ w', Below w.heap.size w w' → K (c.e (num i j).toNat) w') :
    Fc Try.prog F_spec_l01At #[c.val, .int .i64 i, .int .i64 j] w (.one (.int .i64)) K := by
  have hn := num_lt h0 h1 k0 k1 (Int.le_refl _) hne
  rw [show edgesOf 17 = 136 from by decide] at hn
  have hbd := hc.e_bd (num i j).toNat
  exact walk_spec_l01At _ _ _ (col_box fun b w1 n1 hx => c_spec_l01Edge h0 (by omega) k0 (by omega) (col_e hc hx hn.1 hn.2 (u8_int hbd.1 hbd.2 (hK w1 n1.below))))

end Go.Proofs.Ytkadckhealbdaaa

/- The reading of spec_l01Own, and its contract. No condition. -/
namespace Go.Proofs.Ytkadckhealbdaaa
open Go Go.RowKit Eng Mem
set_option linter.unusedVariables false
set_option maxRecDepth 100000
def V_spec_l01Own (list0 : Value) (w : World) (K : Value → World → Prop) : Prop :=
  (Pr Try.prog (Instr.buildSlice 31 0 #[]) w (.one .any) fun (x3_2 : Value) w_1 => (Pr Try.prog (Builtin.append_ #[31, 31] 31 #[x3_2, list0]) w_1 (.one .any) fun (x5_4 : Value) w_3 => K (x5_4 : Value) w_3))

theorem eq_spec_l01Own (list0 : Value) (w : World) (K : Value → World → Prop) :
    W Try.prog ty (fun _ _ _ _ => False) (bodyOf Try.f90) (fnPost Try.prog Try.f90.results.toList (.one .any) K) (frame0 [list0] 6) w = V_spec_l01Own list0 w K := by
  kernel_rfl

theorem body_spec_l01Own : Try.f90.body = some (bodyOf Try.f90) := by kernel_rfl
theorem name_spec_l01Own : (Try.f90.name == "runtime.NumGoroutine") = false := by kernel_rfl

theorem walk_spec_l01Own (list0 : Value) {w : World} {K : Value → World → Prop} (h : V_spec_l01Own list0 w K) : Fc Try.prog 90 #[list0] w (.one .any) K :=
  fn_ok follows (sound_none _) Try.func90 name_spec_l01Own body_spec_l01Own Try.ntmps90 [list0] (Eq.mpr (eq_spec_l01Own list0 w K) h)

-- uses S2Sl
theorem c_spec_l01Own {a : Value} {l : List Int} {w : World} {K : Value → World → Prop} (h : SlI w a l) (hl : l.length ≤ 1099511627776) (hK : ∀ w' v b, w.heap.size ≤ b → Below w.heap.size w w' → OwnI w' b v l → K v w') :
    Fc Try.prog F_spec_l01Own #[a] w (.one .any) K := by
  refine walk_spec_l01Own _ (nilI fun b v w1 hb hbel ho => appsI ho (h.keep hbel) (by simpa using hl) fun v' w' b' o m hb' => ?_)
  have hs := hbel.size
  rw [List.nil_append] at o
  exact hK w' v' b' (by omega) (hbel.trans (m.below (by omega) (by simp; omega))) o

end Go.Proofs.Ytkadckhealbdaaa

/- The reading of spec_l06Go, and its contract. No condition. -/
namespace Go.Proofs.Ytkadckhealbdaaa
open Go Go.RowKit Eng Mem
set_option linter.unusedVariables false
set_option maxRecDepth 100000
def B_spec_l06Go_11 (s0 : Value) (list1 : Value) (used2 : Int) (p6 : Int) (image7 : Int) (fits8 : Bool) (q9 : Int) (N : (Value × Value × Int × Int × Int) → (Bool × Int) → World → Prop) (D2 : (Value × Value × Int × Int × Int × Bool × Unit) → World → Prop) (w : World) : Prop :=
  (((decide (q9 < p6)) = true → ((fits8 = true → (∀ w_40, Drew w w_40 → (NilOk s0 ∧ (QAll Try.prog (Instr.fieldAt 73 s0 0) .any fun (x89_41 : Value) => (QSub Try.prog (Instr.loadAt 25 x89_41) w_40 .any fun (x90_42 : Value) => (NilOk s0 ∧ (QAll Try.prog (Instr.fieldAt 73 s0 1) .any fun (x96_43 : Value) => (QSub Try.prog (Instr.loadAt 25 x96_43) w_40 .any fun (x97_44 : Value) => (QAll Try.prog (Instr.indexAt 31 list1 (.int .i64 q9)) .any fun (x100_45 : Value) => (QSub Try.prog (Instr.loadAt 2 x100_45) w_40 (.int .i64) fun (x101_46 : Int) => (Fc Try.prog 118 #[x90_42, (.int .i64 q9), (.int .i64 p6)] w_40 (.one (.int .i64)) fun (x93_48 : Int) w_47 => (Keeps w_40 w_47 ((Fc Try.prog 118 #[x97_44, (.int .i64 x101_46), (.int .i64 image7)] w_47 (.one (.int .i64)) fun (x103_50 : Int) w_49 => (Keeps w_40 w_49 (N ((s0 : Value), (list1 : Value), used2, p6, image7) ((x93_48 == x103_50), (IntKind.i64.wrap (q9 + (1 : Int)))) w_49)))))))))))))))) ∧ (fits8 = false → D2 ((s0 : Value), (list1 : Value), used2, p6, image7, fits8, ()) w))) ∧ ((decide (q9 < p6)) = false → D2 ((s0 : Value), (list1 : Value), used2, p6, image7, fits8, ()) w))

abbrev L_spec_l06Go_11_e2 : List Slot := [.k .any, .k .any, .k (.int .i64), .junk, .junk, .junk, .k (.int .i64), .k (.int .i64), .k .bool, .junk, .junk, .junk, .junk, .junk, .junk, .junk, .junk, .junk, .junk, .junk, .junk, .junk, .junk, .junk, .junk, .junk, .junk, .junk, .junk, .junk, .junk, .junk, .junk, .junk, .junk, .junk, .junk, .junk, .junk, .junk, .junk, .junk, .junk, .junk, .junk, .junk, .junk, .junk, .junk, .junk, .junk, .junk, .junk, .junk, .junk, .junk, .junk, .junk, .junk, .junk, .junk, .junk, .junk, .junk, .junk, .junk, .junk, .junk, .junk, .junk, .junk, .junk, .junk, .junk, .junk, .junk, .junk, .junk, .junk, .junk, .junk, .junk, .junk, .junk, .junk, .junk, .junk, .junk, .junk, .junk, .junk, .junk, .junk, .junk, .junk, .junk, .junk, .junk, .junk, .junk, .junk, .junk, .junk, .junk, .junk, .junk, .junk, .junk, .junk, .junk, .junk, .junk, .junk, .junk, .junk, .junk, .junk, .junk]

abbrev L_spec_l06Go_11_sp : List Slot := [.k .any, .k .any, .k (.int .i64), .junk, .junk, .junk, .k (.int .i64), .k (.int .i64), .k .bool, .k (.int .i64), .junk, .junk, .junk, .junk, .junk, .junk, .junk, .junk, .junk, .junk, .junk, .junk, .junk, .junk, .junk, .junk, .junk, .junk, .junk, .junk, .junk, .junk, .junk, .junk, .junk, .junk, .junk, .junk, .junk, .junk, .junk, .junk, .junk, .junk, .junk, .junk, .junk, .junk, .junk, .junk, .junk, .junk, .junk, .junk, .junk, .junk, .junk, .junk, .junk, .junk, .junk, .junk, .junk, .junk, .junk, .junk, .junk, .junk, .junk, .junk, .junk, .junk, .junk, .junk, .junk, .junk, .junk, .junk, .junk, .junk, .junk, .junk, .junk, .junk, .junk, .junk, .junk, .junk, .junk, .junk, .junk, .junk, .junk, .junk, .junk, .junk, .junk, .junk, .junk, .junk, .junk, .junk, .junk, .junk, .junk, .junk, .junk, .junk, .junk, .junk, .junk, .junk, .junk, .junk, .junk, .junk, .junk, .junk]
abbrev L_spec_l06Go_11_ex : List (Nat × List Slot) := [(2, L_spec_l06Go_11_e2)]
abbrev L_spec_l06Go_11_rt : List Slot := [.junk, .junk, .junk, .junk, .junk, .junk, .junk, .junk, .junk, .junk, .junk, .junk, .junk, .junk, .junk, .junk, .junk, .junk, .junk, .junk, .junk, .junk, .junk, .junk, .junk, .junk, .junk, .junk, .junk, .junk, .junk, .junk, .junk, .junk, .junk, .junk, .junk, .junk, .junk, .junk, .junk, .junk, .junk, .junk, .junk, .junk, .junk, .junk, .junk, .junk, .junk, .junk, .junk, .junk, .junk, .junk, .junk, .junk, .junk, .junk, .junk, .junk, .junk, .junk, .junk, .junk, .junk, .junk, .junk, .junk, .junk, .junk, .junk, .junk, .junk, .junk, .junk, .junk, .junk, .junk, .junk, .junk, .junk, .junk, .junk, .junk, .junk, .junk, .junk, .junk, .junk, .junk, .junk, .junk, .junk, .junk, .junk, .junk, .junk, .junk, .junk, .junk, .junk, .junk, .junk, .junk, .junk, .junk, .junk, .junk, .junk, .junk, .junk, .junk, .junk, .junk, .junk, .junk]

def L_spec_l06Go_11_b (Φ : Post) (u : (Value × Value × Int × Int × Int)) (N : (Value × Value × Int × Int × Int) → (Bool × Int) → World → Prop) (s : (Bool × Int)) (w : World) : Prop :=
  B_spec_l06Go_11 u.1 u.2.1 u.2.2.1 u.2.2.2.1 u.2.2.2.2 s.1 s.2 N (fun v w => ∀ j : Nat → Value, Φ (.exit 2) (mkT j 0 L_spec_l06Go_11_e2 v) w) w

theorem L_spec_l06Go_11_eq (j : Nat → Value) (u : (Value × Value × Int × Int × Int)) (s : (Bool × Int)) (N : (Value × Value × Int × Int × Int) → (Bool × Int) → World → Prop) (D2 : (Value × Value × Int × Int × Int × Bool × Unit) → World → Prop) (R : (Unit) → World → Prop) (w : World) :
    W Try.prog ty (fun _ _ _ _ => False) (loopAt Try.f97 11) (loopPost L_spec_l06Go_11_sp [(2, (⟨L_spec_l06Go_11_e2, D2⟩ : Door))] ⟨L_spec_l06Go_11_rt, R⟩ (fun v w => N ((fun v => (v.1, v.2.1, v.2.2.1, v.2.2.2.1, v.2.2.2.2.1)) v) ((fun v => (v.2.2.2.2.2.1, v.2.2.2.2.2.2.1)) v) w)) (mkT j 0 L_spec_l06Go_11_sp ((fun u s => (u.1, u.2.1, u.2.2.1, u.2.2.2.1, u.2.2.2.2, s.1, s.2, ())) u s)) w =
    B_spec_l06Go_11 u.1 u.2.1 u.2.2.1 u.2.2.2.1 u.2.2.2.2 s.1 s.2 N D2 w := by
  kernel_rfl

def O_spec_l06Go_1 : Code → Post → List SV → World → Prop :=
  orc 11 (loopAt Try.f97 11) L_spec_l06Go_11_sp (fun Φ fr w => LOOP (U := (Value × Value × Int × Int × Int)) (S := (Bool × Int)) ((fun v => (v.1, v.2.1, v.2.2.1, v.2.2.2.1, v.2.2.2.2.1)) (extT L_spec_l06Go_11_sp fr)) (L_spec_l06Go_11_b Φ ((fun v => (v.1, v.2.1, v.2.2.1, v.2.2.2.1, v.2.2.2.2.1)) (extT L_spec_l06Go_11_sp fr))) ((fun v => (v.2.2.2.2.2.1, v.2.2.2.2.2.2.1)) (extT L_spec_l06Go_11_sp fr)) w) (fun _ _ _ _ => False)

theorem O_spec_l06Go_1_ok : Sound Try.prog O_spec_l06Go_1 :=
  orc_ok (sound_none _) fun Φ fr w hs h => loop_ok (ty := ty) follows (sound_none _) L_spec_l06Go_11_sp (fun v => (v.1, v.2.1, v.2.2.1, v.2.2.2.1, v.2.2.2.2.1)) (fun v => (v.2.2.2.2.2.1, v.2.2.2.2.2.2.1)) (fun u s => (u.1, u.2.1, u.2.2.1, u.2.2.2.1, u.2.2.2.2, s.1, s.2, ())) (fun _ => rfl) L_spec_l06Go_11_ex L_spec_l06Go_11_rt (body := L_spec_l06Go_11_b Φ) (fun j u s w N hb => by
    have e := L_spec_l06Go_11_eq j u s N (doorOf Φ (.exit 2) L_spec_l06Go_11_e2).D (doorOf Φ .ret L_spec_l06Go_11_rt).D w
    exact Eq.mpr e hb) hs h

def B_spec_l06Go_6 (s0 : Value) (list1 : Value) (used2 : Int) (p6 : Int) (image7 : Int) (N : (Value × Value × Int × Int) → Int → World → Prop) (D0 : (Unit) → World → Prop) (w : World) : Prop :=
  (∀ w_22, Drew w w_22 → (NilOk s0 ∧ (QAll Try.prog (Instr.fieldAt 73 s0 0) .any fun (x39_23 : Value) => (QAll Try.prog (Instr.fieldAt 25 x39_23 0) .any fun (x40_24 : Value) => (QSub Try.prog (Instr.loadAt 2 x40_24) w_22 (.int .i64) fun (x41_25 : Int) => (((decide (image7 < x41_25)) = true → (NilOk s0 ∧ (QAll Try.prog (Instr.fieldAt 73 s0 5) .any fun (x46_26 : Value) => (QSub Try.prog (Instr.loadAt 2 x46_26) w_22 (.int .i64) fun (x47_27 : Int) => (NilOk s0 ∧ (QAll Try.prog (Instr.fieldAt 73 s0 4) .any fun (x50_28 : Value) => (QSub Try.prog (Instr.loadAt 2 x50_28) w_22 (.int .i64) fun (x51_29 : Int) => (((decide (x47_27 < x51_29)) = true → (∀ w_30, Drew w_22 w_30 → (QAll Try.prog (convert 2 102 (.int .i64 image7)) (.int .u64) fun (x58_31 : Int) => (0 ≤ x58_31 ∧ ((((IntKind.i64.wrap ((BitVec.toNat (BitVec.ofInt (IntKind.bits .i64) (Int.fdiv used2 (2 ^ min (Int.toNat x58_31) 64)) &&& BitVec.ofInt (IntKind.bits .i64) (1 : Int)) : Nat))) == (1 : Int)) = true → N ((s0 : Value), (list1 : Value), used2, p6) (IntKind.i64.wrap (image7 + (1 : Int))) w_30) ∧ (((IntKind.i64.wrap ((BitVec.toNat (BitVec.ofInt (IntKind.bits .i64) (Int.fdiv used2 (2 ^ min (Int.toNat x58_31) 64)) &&& BitVec.ofInt (IntKind.bits .i64) (1 : Int)) : Nat))) == (1 : Int)) = false → (NilOk s0 ∧ (QAll Try.prog (Instr.fieldAt 73 s0 2) .any fun (x65_32 : Value) => (QSub Try.prog (Instr.loadAt 31 x65_32) w_30 .any fun (x66_33 : Value) => (QAll Try.prog (Instr.indexAt 31 x66_33 (.int .i64 p6)) .any fun (x68_34 : Value) => (QSub Try.prog (Instr.loadAt 2 x68_34) w_30 (.int .i64) fun (x69_35 : Int) => (NilOk s0 ∧ (QAll Try.prog (Instr.fieldAt 73 s0 3) .any fun (x72_36 : Value) => (QSub Try.prog (Instr.loadAt 31 x72_36) w_30 .any fun (x73_37 : Value) => (QAll Try.prog (Instr.indexAt 31 x73_37 (.int .i64 image7)) .any fun (x75_38 : Value) => (QSub Try.prog (Instr.loadAt 2 x75_38) w_30 (.int .i64) fun (x76_39 : Int) => (((x69_35 != x76_39) = true → N ((s0 : Value), (list1 : Value), used2, p6) (IntKind.i64.wrap (image7 + (1 : Int))) w_30) ∧ ((x69_35 != x76_39) = false → (At (loopAt Try.f97 11) (loopAt Try.f97 11) (LOOP (U := (Value × Value × Int × Int × Int)) (S := (Bool × Int)) ((s0 : Value), (list1 : Value), used2, p6, image7) (fun N_63 s_64 w_65 => B_spec_l06Go_11 (s0 : Value) (list1 : Value) used2 p6 image7 s_64.1 s_64.2 N_63 (fun (v_51 : (Value × Value × Int × Int × Int × Bool × Unit)) w_52 => ∀ _j_53 : Nat → Value, ((v_51.2.2.2.2.2.1 = true → (Fc Try.prog 90 #[v_51.2.1] w_52 (.one .any) fun (x108_55 : Value) w_54 => (Pr Try.prog (Instr.buildSlice 31 1 #[(0, (.int .i64 v_51.2.2.2.2.1))]) w_54 (.one .any) fun (x110_57 : Value) w_56 => (Pr Try.prog (Builtin.append_ #[31, 31] 31 #[x108_55, x110_57]) w_56 (.one .any) fun (x111_59 : Value) w_58 => (QAll Try.prog (convert 2 102 (.int .i64 v_51.2.2.2.2.1)) (.int .u64) fun (x114_60 : Int) => (0 ≤ x114_60 ∧ (Fc Try.prog 97 #[v_51.1, x111_59, (.int .i64 (IntKind.i64.wrap ((BitVec.toNat (BitVec.ofInt (IntKind.bits .i64) v_51.2.2.1 ||| BitVec.ofInt (IntKind.bits .i64) (IntKind.i64.wrap ((1 : Int) * 2 ^ min (Int.toNat x114_60) 64))) : Nat))))] w_58 .unit fun (x117_62 : Unit) w_61 => N ((v_51.1 : Value), (v_51.2.1 : Value), v_51.2.2.1, v_51.2.2.2.1) (IntKind.i64.wrap (v_51.2.2.2.2.1 + (1 : Int))) w_61))))))) ∧ (v_51.2.2.2.2.2.1 = false → N ((v_51.1 : Value), (v_51.2.1 : Value), v_51.2.2.1, v_51.2.2.2.1) (IntKind.i64.wrap (v_51.2.2.2.2.1 + (1 : Int))) w_52))) w_65) (true, (0 : Int)) w_30)))))))))))))))))))) ∧ ((decide (x47_27 < x51_29)) = false → D0 () w_22))))))))) ∧ ((decide (image7 < x41_25)) = false → D0 () w_22)))))))

abbrev L_spec_l06Go_6_e0 : List Slot := [.junk, .junk, .junk, .junk, .junk, .junk, .junk, .junk, .junk, .junk, .junk, .junk, .junk, .junk, .junk, .junk, .junk, .junk, .junk, .junk, .junk, .junk, .junk, .junk, .junk, .junk, .junk, .junk, .junk, .junk, .junk, .junk, .junk, .junk, .junk, .junk, .junk, .junk, .junk, .junk, .junk, .junk, .junk, .junk, .junk, .junk, .junk, .junk, .junk, .junk, .junk, .junk, .junk, .junk, .junk, .junk, .junk, .junk, .junk, .junk, .junk, .junk, .junk, .junk, .junk, .junk, .junk, .junk, .junk, .junk, .junk, .junk, .junk, .junk, .junk, .junk, .junk, .junk, .junk, .junk, .junk, .junk, .junk, .junk, .junk, .junk, .junk, .junk, .junk, .junk, .junk, .junk, .junk, .junk, .junk, .junk, .junk, .junk, .junk, .junk, .junk, .junk, .junk, .junk, .junk, .junk, .junk, .junk, .junk, .junk, .junk, .junk, .junk, .junk, .junk, .junk, .junk, .junk]

abbrev L_spec_l06Go_6_sp : List Slot := [.k .any, .k .any, .k (.int .i64), .junk, .junk, .junk, .k (.int .i64), .k (.int .i64), .junk, .junk, .junk, .junk, .junk, .junk, .junk, .junk, .junk, .junk, .junk, .junk, .junk, .junk, .junk, .junk, .junk, .junk, .junk, .junk, .junk, .junk, .junk, .junk, .junk, .junk, .junk, .junk, .junk, .junk, .junk, .junk, .junk, .junk, .junk, .junk, .junk, .junk, .junk, .junk, .junk, .junk, .junk, .junk, .junk, .junk, .junk, .junk, .junk, .junk, .junk, .junk, .junk, .junk, .junk, .junk, .junk, .junk, .junk, .junk, .junk, .junk, .junk, .junk, .junk, .junk, .junk, .junk, .junk, .junk, .junk, .junk, .junk, .junk, .junk, .junk, .junk, .junk, .junk, .junk, .junk, .junk, .junk, .junk, .junk, .junk, .junk, .junk, .junk, .junk, .junk, .junk, .junk, .junk, .junk, .junk, .junk, .junk, .junk, .junk, .junk, .junk, .junk, .junk, .junk, .junk, .junk, .junk, .junk, .junk]
abbrev L_spec_l06Go_6_ex : List (Nat × List Slot) := [(0, L_spec_l06Go_6_e0)]
abbrev L_spec_l06Go_6_rt : List Slot := [.junk, .junk, .junk, .junk, .junk, .junk, .junk, .junk, .junk, .junk, .junk, .junk, .junk, .junk, .junk, .junk, .junk, .junk, .junk, .junk, .junk, .junk, .junk, .junk, .junk, .junk, .junk, .junk, .junk, .junk, .junk, .junk, .junk, .junk, .junk, .junk, .junk, .junk, .junk, .junk, .junk, .junk, .junk, .junk, .junk, .junk, .junk, .junk, .junk, .junk, .junk, .junk, .junk, .junk, .junk, .junk, .junk, .junk, .junk, .junk, .junk, .junk, .junk, .junk, .junk, .junk, .junk, .junk, .junk, .junk, .junk, .junk, .junk, .junk, .junk, .junk, .junk, .junk, .junk, .junk, .junk, .junk, .junk, .junk, .junk, .junk, .junk, .junk, .junk, .junk, .junk, .junk, .junk, .junk, .junk, .junk, .junk, .junk, .junk, .junk, .junk, .junk, .junk, .junk, .junk, .junk, .junk, .junk, .junk, .junk, .junk, .junk, .junk, .junk, .junk, .junk, .junk, .junk]

def L_spec_l06Go_6_b (Φ : Post) (u : (Value × Value × Int × Int)) (N : (Value × Value × Int × Int) → Int → World → Prop) (s : Int) (w : World) : Prop :=
  B_spec_l06Go_6 u.1 u.2.1 u.2.2.1 u.2.2.2 s N (fun v w => ∀ j : Nat → Value, Φ (.exit 0) (mkT j 0 L_spec_l06Go_6_e0 v) w) w

theorem L_spec_l06Go_6_eq (j : Nat → Value) (u : (Value × Value × Int × Int)) (s : Int) (N : (Value × Value × Int × Int) → Int → World → Prop) (D0 : (Unit) → World → Prop) (R : (Unit) → World → Prop) (w : World) :
    W Try.prog ty O_spec_l06Go_1 (loopAt Try.f97 6) (loopPost L_spec_l06Go_6_sp [(0, (⟨L_spec_l06Go_6_e0, D0⟩ : Door))] ⟨L_spec_l06Go_6_rt, R⟩ (fun v w => N ((fun v => (v.1, v.2.1, v.2.2.1, v.2.2.2.1)) v) ((fun v => v.2.2.2.2.1) v) w)) (mkT j 0 L_spec_l06Go_6_sp ((fun u s => (u.1, u.2.1, u.2.2.1, u.2.2.2, s, ())) u s)) w =
    B_spec_l06Go_6 u.1 u.2.1 u.2.2.1 u.2.2.2 s N D0 w := by
  kernel_rfl

def O_spec_l06Go_2 : Code → Post → List SV → World → Prop :=
  orc 6 (loopAt Try.f97 6) L_spec_l06Go_6_sp (fun Φ fr w => LOOP (U := (Value × Value × Int × Int)) (S := Int) ((fun v => (v.1, v.2.1, v.2.2.1, v.2.2.2.1)) (extT L_spec_l06Go_6_sp fr)) (L_spec_l06Go_6_b Φ ((fun v => (v.1, v.2.1, v.2.2.1, v.2.2.2.1)) (extT L_spec_l06Go_6_sp fr))) ((fun v => v.2.2.2.2.1) (extT L_spec_l06Go_6_sp fr)) w) O_spec_l06Go_1

theorem O_spec_l06Go_2_ok : Sound Try.prog O_spec_l06Go_2 :=
  orc_ok O_spec_l06Go_1_ok fun Φ fr w hs h => loop_ok (ty := ty) follows O_spec_l06Go_1_ok L_spec_l06Go_6_sp (fun v => (v.1, v.2.1, v.2.2.1, v.2.2.2.1)) (fun v => v.2.2.2.2.1) (fun u s => (u.1, u.2.1, u.2.2.1, u.2.2.2, s, ())) (fun _ => rfl) L_spec_l06Go_6_ex L_spec_l06Go_6_rt (body := L_spec_l06Go_6_b Φ) (fun j u s w N hb => by
    have e := L_spec_l06Go_6_eq j u s N (doorOf Φ (.exit 0) L_spec_l06Go_6_e0).D (doorOf Φ .ret L_spec_l06Go_6_rt).D w
    exact Eq.mpr e hb) hs h

def V_spec_l06Go (s0 : Value) (list1 : Value) (used2 : Int) (w : World) (K : Unit → World → Prop) : Prop :=
  (QAll Try.prog (Builtin.len_ #[31] 3 #[list1]) (.int .i64) fun (x11_1 : Int) => (NilOk s0 ∧ (QAll Try.prog (Instr.fieldAt 73 s0 0) .any fun (x15_2 : Value) => (QAll Try.prog (Instr.fieldAt 25 x15_2 0) .any fun (x16_3 : Value) => (QSub Try.prog (Instr.loadAt 2 x16_3) w (.int .i64) fun (x17_4 : Int) => (((x11_1 == x17_4) = true → (NilOk s0 ∧ (QAll Try.prog (Instr.fieldAt 73 s0 5) .any fun (x21_5 : Value) => (QSub Try.prog (Instr.loadAt 2 x21_5) w (.int .i64) fun (x22_6 : Int) => (((x22_6 == (0 : Int)) = true → (Fc Try.prog 90 #[list1] w (.one .any) fun (x26_8 : Value) w_7 => (NilOk s0 ∧ (QAll Try.prog (Instr.fieldAt 73 s0 6) .any fun (x28_9 : Value) => (PrU Try.prog (Instr.storeAt 31 x28_9 x26_8) w_7 fun w_10 => (NilOk s0 ∧ (QAll Try.prog (Instr.fieldAt 73 s0 5) .any fun (x31_12 : Value) => (QSub Try.prog (Instr.loadAt 2 x31_12) w_10 (.int .i64) fun (x32_13 : Int) => (NilOk s0 ∧ (QAll Try.prog (Instr.fieldAt 73 s0 5) .any fun (x35_14 : Value) => (PrU Try.prog (Instr.storeAt 2 x35_14 (.int .i64 (IntKind.i64.wrap (x32_13 + (1 : Int))))) w_10 fun w_15 => K () w_15))))))))))) ∧ ((x22_6 == (0 : Int)) = false → (NilOk s0 ∧ (QAll Try.prog (Instr.fieldAt 73 s0 5) .any fun (x31_17 : Value) => (QSub Try.prog (Instr.loadAt 2 x31_17) w (.int .i64) fun (x32_18 : Int) => (NilOk s0 ∧ (QAll Try.prog (Instr.fieldAt 73 s0 5) .any fun (x35_19 : Value) => (PrU Try.prog (Instr.storeAt 2 x35_19 (.int .i64 (IntKind.i64.wrap (x32_18 + (1 : Int))))) w fun w_20 => K () w_20)))))))))))) ∧ ((x11_1 == x17_4) = false → (At (loopAt Try.f97 6) (loopAt Try.f97 6) (LOOP (U := (Value × Value × Int × Int)) (S := Int) ((s0 : Value), (list1 : Value), used2, x11_1) (fun N_69 s_70 w_71 => B_spec_l06Go_6 (s0 : Value) (list1 : Value) used2 x11_1 s_70 N_69 (fun (v_66 : (Unit)) w_67 => ∀ _j_68 : Nat → Value, K () w_67) w_71) (0 : Int) w)))))))))

theorem eq_spec_l06Go (s0 : Value) (list1 : Value) (used2 : Int) (w : World) (K : Unit → World → Prop) :
    W Try.prog ty O_spec_l06Go_2 (bodyOf Try.f97) (fnPost Try.prog Try.f97.results.toList .unit K) (frame0 [s0, list1, (.int .i64 used2)] 118) w = V_spec_l06Go s0 list1 used2 w K := by
  kernel_rfl

theorem body_spec_l06Go : Try.f97.body = some (bodyOf Try.f97) := by kernel_rfl
theorem name_spec_l06Go : (Try.f97.name == "runtime.NumGoroutine") = false := by kernel_rfl

theorem walk_spec_l06Go (s0 : Value) (list1 : Value) (used2 : Int) {w : World} {K : Unit → World → Prop} (h : V_spec_l06Go s0 list1 used2 w K) : Fc Try.prog 97 #[s0, list1, (.int .i64 used2)] w .unit K :=
  fn_ok follows O_spec_l06Go_2_ok Try.func97 name_spec_l06Go body_spec_l06Go Try.ntmps97 [s0, list1, (.int .i64 used2)] (Eq.mpr (eq_spec_l06Go s0 list1 used2 w K) h)

-- uses S9IsoS
theorem c_spec_l06Go {b : Nat} {x y : Col} {one two first : Value} (B : Nat) (hx : x.Ok) (hy : y.Ok) (Ix : x.Is) (Iy : y.Is) (hxy : x.n = y.n) (hk : x.k = y.k) :
    ∀ (fuel : Nat) (p : List Int) (v : Value) (u : Nat) (w : World) (K : Unit → World → Prop), p.length + fuel = x.n.toNat → B ≤ w.heap.size → SrAt w b x y one two 1 0 first → SlI w one (typesL x x.n.toNat) → SlI w two (typesL y y.n.toNat) → SlI w v p → (∀ e ∈ p, 0 ≤ e ∧ e < x.n) → u < 2 ^ 17 → (∀ j, u.testBit j = decide ((j : Int) ∈ p)) →
      (isoF x y fuel p = none → ∀ w', Below w.heap.size w w' → K () w') → (∀ l, isoF x y fuel p = some l → ∀ w' u c, Mod [b] w w' → B ≤ c → OwnI w' c u l → SrAt w' b x y one two 1 1 u → K () w') →
      Fc Try.prog F_spec_l06Go #[ptr b 0, v, .int .i64 (u : Int)] w .unit K
  | fuel, p, v, u, w, K, hlen, hB, hsr, h1, h2, hp, hpe, hu, hbit, hn, hs => by
    have n0 := Ix.1; have n1 := Ix.2.1
    have nn : NilOk (ptr b 0) := .inl ⟨_, rfl⟩
    have hl1 := typesL_len x x.n.toNat
    have hl2 := typesL_len y y.n.toNat
    refine walk_spec_l06Go _ _ _ (lenI hp ⟨nn, fldp sr0 (col_n hsr.x ⟨fun he => ?_, fun hne => ?_⟩)⟩)
    · have he := eq_t he
      have hf : fuel = 0 := by omega
      subst hf
      refine ⟨nn, fldp sr5 (ld (k := .int .i64) yI (hsr.tail hx hy 3 rfl) ⟨fun _ => ?_, fun h => absurd rfl (eq_f h)⟩)⟩
      refine c_spec_l01Own hp (by omega) fun w1 o c hc q1 ho => ⟨nn, fldp sr6 ?_⟩
      have hs1 := hsr.keep q1
      refine st y1SI hs1.blk (by rw [srV_len hx hy]; omega) (own_one_I ho) fun w2 m2 s2 h2' => ?_
      have hs2 : SrAt w2 b x y one two 1 0 o := SrAt.setf hx hy h2'
      refine ⟨nn, fldp sr5 (ld (k := .int .i64) yI (hs2.tail hx hy 3 rfl) ⟨nn, fldp sr5 ?_⟩)⟩
      refine st yI hs2.blk (by rw [srV_len hx hy]; omega) rfl fun w3 m3 s3 h3' => ?_
      rw [wrap_small (by omega) (by omega)] at h3'
      have hs3 : SrAt w3 b x y one two 1 1 o := SrAt.setc hx hy h3'
      have hlb := at_lt hsr.blk
      exact hs p rfl w3 o c (((mod_of_below q1 _).trans m2).trans m3) (by omega) ((ho.mod m2 (by simp; omega)).mod m3 (by simp; omega)) hs3
    have hne := eq_f hne
    match fuel, hlen, hn, hs with
    | 0, hlen, _, _ => omega
    | fuel + 1, hlen, hn, hs =>
    have hkn : p.length < x.n.toNat := by omega
    rw [isoF_succ] at hn hs
    refine lp (fun s w' => ∃ j : Nat, s = j ∧ j ≤ x.n.toNat ∧ ((Below w.heap.size w w' ∧ isoR x y fuel p j = isoR x y fuel p 0) ∨ ∃ l o c, isoR x y fuel p 0 = some l ∧ Mod [b] w w' ∧ B ≤ c ∧ OwnI w' c o l ∧ SrAt w' b x y one two 1 1 o)) (fun s _ => (17 - s).toNat) ⟨0, rfl, by omega, .inl ⟨Below.refl _ _, rfl⟩⟩ ?_
    rintro t w2 N ⟨j, hjj, hjn, hst⟩ hN
    subst hjj
    unfold B_spec_l06Go_6
    intro w3 hd3
    rcases hst with ⟨q2, hR⟩ | ⟨l, o, c, hsome, m2, hc, ho, hsr2⟩
    case inr =>
      have b23 := hd3.below w2.heap.size
      have hsr3 := hsr2.keep b23
      have fin : ∀ w', Below w2.heap.size w2 w' → K () w' := fun w' q => hs l hsome w' o c (m2.trans (mod_of_below q _)) hc (ho.keep q) (hsr2.keep q)
      refine ⟨nn, fldp sr0 (col_n hsr3.x ⟨fun _ => ⟨nn, fldp sr5 (ld (k := .int .i64) yI (hsr3.tail hx hy 3 rfl) ⟨nn, fldp sr4 (ld (k := .int .i64) yI (hsr3.tail hx hy 2 rfl) ⟨fun h => absurd (dec_t h) (by omega), fun _ _ => fin w3 b23⟩)⟩)⟩, fun _ _ => fin w3 b23⟩)⟩
    have q3 := q2.trans (hd3.below w.heap.size)
    have hsr3 := hsr.keep q3
    refine ⟨nn, fldp sr0 (col_n hsr3.x ⟨fun hlt => ?_, fun hge => ?_⟩)⟩
    · have hlt := dec_t hlt
      refine ⟨nn, fldp sr5 (ld (k := .int .i64) yI (hsr3.tail hx hy 3 rfl) ⟨nn, fldp sr4 (ld (k := .int .i64) yI (hsr3.tail hx hy 2 rfl) ⟨fun _ => ?_, fun h => absurd (by omega) (dec_f h)⟩)⟩)⟩
      intro w4 hd4
      have q4 := q3.trans (hd4.below w.heap.size)
      have hsr4 := hsr.keep q4
      have next : ∀ w', Below w.heap.size w w' → isoR x y fuel p (j + 1) = isoR x y fuel p 0 → N (ptr b 0, v, (u : Int), (p.length : Int)) (IntKind.i64.wrap ((j : Int) + 1)) w' := fun w' q h => by
        rw [wrap_small (by omega) (by omega)]
        exact hN _ _ ⟨j + 1, by omega, by omega, .inl ⟨q, h⟩⟩ (by omega)
      refine int_u64 (by omega) (by omega) ⟨by omega, ?_⟩
      rw [wshr (by omega) (by omega), bit_iff, hbit]
      refine ⟨fun hin => ?_, fun hout => ?_⟩
      · have hin := dec_t hin
        exact next w4 q4 (by rw [← hR]; exact (isoR_skip (by omega) (fun h => by rw [fits_out hin] at h; cases h.2)).symm)
      have hout := dec_f hout
      refine ⟨nn, fldp sr2 (ld (k := .any) y1SI (hsr4.tail hx hy 0 rfl) (atI (h1.keep q4) (by omega) (by rw [hl1]; omega) ⟨nn, fldp sr3 (ld (k := .any) y1SI (hsr4.tail hx hy 1 rfl) (atI (h2.keep q4) (by omega) (by rw [hl2]; omega) ?_))⟩))⟩
      rw [Int.toNat_natCast, Int.toNat_natCast, typesL_get x hkn, typesL_get y (by omega)]
      have hsame : sameD x y p.length j = decide (typeN x p.length x.k.toNat = typeN y j y.k.toNat) := by
        unfold sameD
        rw [decide_eq_decide, ← hk]
        exact (typeN_eq n1 (by omega) _ _ _).symm
      refine ⟨fun hne2 => ?_, fun heq => ?_⟩
      · have hne2 := ne_t hne2
        exact next w4 q4 (by rw [← hR]; exact (isoR_skip (by omega) (fun h => by rw [hsame] at h; exact hne2 (dec_t h.1))).symm)
      have heq := ne_f heq
      have hsm : sameD x y p.length j = true := by rw [hsame]; exact decide_eq_true heq
      refine lp (fun s w' => Below w4.heap.size w4 w' ∧ ∃ m : Nat, s.2 = m ∧ m ≤ p.length ∧ (s.1 = true → ∀ a : Nat, a < m → colAt x a p.length = colAt y (p.getD a 0) j) ∧ (s.1 = false → fitsD x y p j = false)) (fun s _ => (17 - s.2).toNat) ⟨Below.refl _ _, 0, rfl, by omega, fun _ a h => absurd h (by omega), fun h => absurd h (by simp)⟩ ?_
      rintro ⟨fits, t⟩ w5 N' ⟨q5, m, hm, hmp, hall, hbad⟩ hN'
      simp only at hm hall hbad
      subst hm
      unfold B_spec_l06Go_11
      dsimp only
      have q45 := q4.trans (q5.mono q4.size)
      have hsr5 := hsr.keep q45
      have bad : fits = false → N (ptr b 0, v, (u : Int), (p.length : Int)) (IntKind.i64.wrap ((j : Int) + 1)) w5 := fun h => next w5 q45 (by rw [← hR]; exact (isoR_skip (by omega) (fun h' => by rw [hbad h] at h'; cases h'.2)).symm)
      refine ⟨fun hlt2 => ⟨fun hf => ?_, fun hf => ?_⟩, fun hge2 => ?_⟩
      · have hlt2 := dec_t hlt2
        intro w6 hd6
        have q6 := q45.trans (hd6.below w.heap.size)
        have hsr6 := hsr.keep q6
        have hmem : p.getD m 0 ∈ p := by
          have : m < p.length := by omega
          have e : p.getD m 0 = p[m] := by simp [List.getD, this]
          rw [e]; exact List.getElem_mem this
        have hto := hpe _ hmem
        have hne3 : p.getD m 0 ≠ j := fun h => hout (by rw [← h]; exact hmem)
        refine ⟨nn, fldp sr0 (col_all hx hsr6.x ⟨nn, fldp sr1 (col_all hy (hsr6.y hx) (atI (hp.keep q6) (by omega) hlt2 ?_))⟩)⟩
        rw [Int.toNat_natCast]
        refine c_spec_l01At hx (by omega) (by omega) (by omega) (by omega) (by omega) fun w7 q7 => ⟨q7, c_spec_l01At hy hto.1 (by omega) (by omega) (by omega) hne3 fun w8 q8 => ?_⟩
        have q78 := q7.trans (q8.mono q7.size)
        refine ⟨q78, ?_⟩
        rw [wrap_small (by omega) (by omega)]
        refine hN' _ _ ⟨(q5.trans (hd6.below _)).trans (q78.mono (by have := q5.size; have := (hd6.below w5.heap.size).size; omega)), m + 1, by simp only; omega, by omega, fun h a ha => ?_, fun h => ?_⟩ (by simp only; omega)
        · have h := eq_t h
          by_cases ham : a < m
          · exact hall hf a ham
          · have : a = m := by omega
            subst this
            exact h
        · have h := eq_f h
          unfold fitsD
          exact decide_eq_false fun hh => h (hh m (by omega)).2
      · intro _
        exact ⟨fun h => absurd h (by rw [hf]; simp), fun _ => bad hf⟩
      · have hge2 := dec_f hge2
        have : m = p.length := by omega
        subst this
        intro _
        refine ⟨fun hf => ?_, fun hf => bad hf⟩
        have hfits : fitsD x y p j = true := by
          unfold fitsD
          refine decide_eq_true fun a ha => ⟨fun h => hout ?_, hall hf a ha⟩
          rw [← h]
          have e : p.getD a 0 = p[a] := by simp [List.getD, ha]
          rw [e]; exact List.getElem_mem ha
        have hgo := isoR_go (f := fuel) (by omega) hsm hfits
        rw [hR] at hgo
        refine c_spec_l01Own (hp.keep q45) (by omega) fun w6 o c hc q6 ho => ?_
        have q56 := q45.trans (q6.mono q45.size)
        refine appI ho (by omega) fun o' w7 c' ho' m7 hc' => ?_
        have hz := q56.size; have hz5 := q45.size; have hz6 := q6.size
        have q7 : Below w.heap.size w w7 := q56.trans (m7.below (by omega) (by simp; omega))
        refine int_u64 (by omega) (by omega) ⟨by omega, ?_⟩
        rw [wbor (by omega) (by omega)]
        have hlt7 := ho'.lt
        refine c_spec_l06Go B hx hy Ix Iy hxy hk fuel (p ++ [(j : Int)]) o' (u ||| 2 ^ j) w7 _ (by simp; omega) (by have := q7.size; omega) (hsr.keep q7) (h1.keep q7) (h2.keep q7) (own_slI ho' (by simp; omega)) (fun e he => by
          rcases List.mem_append.1 he with he | he
          · exact hpe e he
          · simp at he; omega) (Nat.or_lt_two_pow hu (Nat.pow_lt_pow_right (by omega) (by omega))) (bits_more hbit) (fun hnone w8 q8 => ?_) (fun l hsome w8 o8 c8 m8 hc8 ho8 hs8 => ?_)
        · rw [hnone] at hgo
          exact next w8 (q7.trans (q8.mono q7.size)) hgo.symm
        · rw [hsome] at hgo
          show N _ (IntKind.i64.wrap ((j : Int) + 1)) w8
          rw [wrap_small (by omega) (by omega)]
          exact hN _ _ ⟨j + 1, by omega, by omega, .inr ⟨l, o8, c8, hgo, (mod_of_below q7 _).trans m8, hc8, ho8, hs8⟩⟩ (by omega)
    · have hge := dec_f hge
      have : j = x.n.toNat := by omega
      subst this
      intro _
      refine hn ?_ w3 q3
      rw [← hR, hxy, isoR_end]

end Go.Proofs.Ytkadckhealbdaaa

/- The reading of spec_l01Around, and its contract. No condition. -/
namespace Go.Proofs.Ytkadckhealbdaaa
open Go Go.RowKit Eng Mem
set_option linter.unusedVariables false
set_option maxRecDepth 100000
def B_spec_l01Around_3 (i1 : Int) (c2 : Int) (x3 : Value) (set7 : Int) (j8 : Int) (N : (Int × Int × Value) → (Int × Int) → World → Prop) (D0 : (Int × Unit) → World → Prop) (w : World) : Prop :=
  (QAll Try.prog (Instr.fieldAt 25 x3 0) .any fun (x10_3 : Value) => (QSub Try.prog (Instr.loadAt 2 x10_3) w (.int .i64) fun (x11_4 : Int) => (((decide (j8 < x11_4)) = true → (((j8 != i1) = true → (QSub Try.prog (Instr.loadAt 25 x3) w .any fun (x19_5 : Value) => (Fc Try.prog 118 #[x19_5, (.int .i64 i1), (.int .i64 j8)] w (.one (.int .i64)) fun (x22_7 : Int) w_6 => (((x22_7 == c2) = true → (QAll Try.prog (convert 2 102 (.int .i64 j8)) (.int .u64) fun (x28_8 : Int) => (0 ≤ x28_8 ∧ N (i1, c2, (x3 : Value)) ((IntKind.i64.wrap ((BitVec.toNat (BitVec.ofInt (IntKind.bits .i64) set7 ||| BitVec.ofInt (IntKind.bits .i64) (IntKind.i64.wrap ((1 : Int) * 2 ^ min (Int.toNat x28_8) 64))) : Nat))), (IntKind.i64.wrap (j8 + (1 : Int)))) w_6))) ∧ ((x22_7 == c2) = false → N (i1, c2, (x3 : Value)) (set7, (IntKind.i64.wrap (j8 + (1 : Int)))) w_6))))) ∧ ((j8 != i1) = false → N (i1, c2, (x3 : Value)) (set7, (IntKind.i64.wrap (j8 + (1 : Int)))) w))) ∧ ((decide (j8 < x11_4)) = false → D0 (set7, ()) w))))

abbrev L_spec_l01Around_3_e0 : List Slot := [.junk, .junk, .junk, .junk, .junk, .junk, .junk, .k (.int .i64), .junk, .junk, .junk, .junk, .junk, .junk, .junk, .junk, .junk, .junk, .junk, .junk, .junk, .junk, .junk, .junk, .junk, .junk, .junk, .junk, .junk, .junk, .junk, .junk]

abbrev L_spec_l01Around_3_sp : List Slot := [.junk, .k (.int .i64), .k (.int .i64), .k .any, .junk, .junk, .junk, .k (.int .i64), .k (.int .i64), .junk, .junk, .junk, .junk, .junk, .junk, .junk, .junk, .junk, .junk, .junk, .junk, .junk, .junk, .junk, .junk, .junk, .junk, .junk, .junk, .junk, .junk, .junk]
abbrev L_spec_l01Around_3_ex : List (Nat × List Slot) := [(0, L_spec_l01Around_3_e0)]
abbrev L_spec_l01Around_3_rt : List Slot := [.junk, .junk, .junk, .junk, .junk, .junk, .junk, .junk, .junk, .junk, .junk, .junk, .junk, .junk, .junk, .junk, .junk, .junk, .junk, .junk, .junk, .junk, .junk, .junk, .junk, .junk, .junk, .junk, .junk, .junk, .junk, .junk]

def L_spec_l01Around_3_b (Φ : Post) (u : (Int × Int × Value)) (N : (Int × Int × Value) → (Int × Int) → World → Prop) (s : (Int × Int)) (w : World) : Prop :=
  B_spec_l01Around_3 u.1 u.2.1 u.2.2 s.1 s.2 N (fun v w => ∀ j : Nat → Value, Φ (.exit 0) (mkT j 0 L_spec_l01Around_3_e0 v) w) w

theorem L_spec_l01Around_3_eq (j : Nat → Value) (u : (Int × Int × Value)) (s : (Int × Int)) (N : (Int × Int × Value) → (Int × Int) → World → Prop) (D0 : (Int × Unit) → World → Prop) (R : (Unit) → World → Prop) (w : World) :
    W Try.prog ty (fun _ _ _ _ => False) (loopAt Try.f117 3) (loopPost L_spec_l01Around_3_sp [(0, (⟨L_spec_l01Around_3_e0, D0⟩ : Door))] ⟨L_spec_l01Around_3_rt, R⟩ (fun v w => N ((fun v => (v.1, v.2.1, v.2.2.1)) v) ((fun v => (v.2.2.2.1, v.2.2.2.2.1)) v) w)) (mkT j 0 L_spec_l01Around_3_sp ((fun u s => (u.1, u.2.1, u.2.2, s.1, s.2, ())) u s)) w =
    B_spec_l01Around_3 u.1 u.2.1 u.2.2 s.1 s.2 N D0 w := by
  kernel_rfl

def O_spec_l01Around_1 : Code → Post → List SV → World → Prop :=
  orc 3 (loopAt Try.f117 3) L_spec_l01Around_3_sp (fun Φ fr w => LOOP (U := (Int × Int × Value)) (S := (Int × Int)) ((fun v => (v.1, v.2.1, v.2.2.1)) (extT L_spec_l01Around_3_sp fr)) (L_spec_l01Around_3_b Φ ((fun v => (v.1, v.2.1, v.2.2.1)) (extT L_spec_l01Around_3_sp fr))) ((fun v => (v.2.2.2.1, v.2.2.2.2.1)) (extT L_spec_l01Around_3_sp fr)) w) (fun _ _ _ _ => False)

theorem O_spec_l01Around_1_ok : Sound Try.prog O_spec_l01Around_1 :=
  orc_ok (sound_none _) fun Φ fr w hs h => loop_ok (ty := ty) follows (sound_none _) L_spec_l01Around_3_sp (fun v => (v.1, v.2.1, v.2.2.1)) (fun v => (v.2.2.2.1, v.2.2.2.2.1)) (fun u s => (u.1, u.2.1, u.2.2, s.1, s.2, ())) (fun _ => rfl) L_spec_l01Around_3_ex L_spec_l01Around_3_rt (body := L_spec_l01Around_3_b Φ) (fun j u s w N hb => by
    have e := L_spec_l01Around_3_eq j u s N (doorOf Φ (.exit 0) L_spec_l01Around_3_e0).D (doorOf Φ .ret L_spec_l01Around_3_rt).D w
    exact Eq.mpr e hb) hs h

def V_spec_l01Around (x0 : Value) (i1 : Int) (c2 : Int) (w : World) (K : Int → World → Prop) : Prop :=
  (Pr Try.prog (Instr.box 25 x0) w (.one .any) fun (x3_2 : Value) w_1 => (At (loopAt Try.f117 3) (loopAt Try.f117 3) (LOOP (U := (Int × Int × Value)) (S := (Int × Int)) (i1, c2, (x3_2 : Value)) (fun N_12 s_13 w_14 => B_spec_l01Around_3 i1 c2 (x3_2 : Value) s_13.1 s_13.2 N_12 (fun (v_9 : (Int × Unit)) w_10 => ∀ _j_11 : Nat → Value, K v_9.1 w_10) w_14) ((0 : Int), (0 : Int)) w_1)))

theorem eq_spec_l01Around (x0 : Value) (i1 : Int) (c2 : Int) (w : World) (K : Int → World → Prop) :
    W Try.prog ty O_spec_l01Around_1 (bodyOf Try.f117) (fnPost Try.prog Try.f117.results.toList (.one (.int .i64)) K) (frame0 [x0, (.int .i64 i1), (.int .i64 c2)] 32) w = V_spec_l01Around x0 i1 c2 w K := by
  kernel_rfl

theorem body_spec_l01Around : Try.f117.body = some (bodyOf Try.f117) := by kernel_rfl
theorem name_spec_l01Around : (Try.f117.name == "runtime.NumGoroutine") = false := by kernel_rfl

theorem walk_spec_l01Around (x0 : Value) (i1 : Int) (c2 : Int) {w : World} {K : Int → World → Prop} (h : V_spec_l01Around x0 i1 c2 w K) : Fc Try.prog 117 #[x0, (.int .i64 i1), (.int .i64 c2)] w (.one (.int .i64)) K :=
  fn_ok follows O_spec_l01Around_1_ok Try.func117 name_spec_l01Around body_spec_l01Around Try.ntmps117 [x0, (.int .i64 i1), (.int .i64 c2)] (Eq.mpr (eq_spec_l01Around x0 i1 c2 w K) h)

-- uses S8Deg
-- uses S7Dig
theorem wshl {j : Int} (h0 : 0 ≤ j) (h1 : j < 62) : IntKind.i64.wrap (1 * 2 ^ min (Int.toNat j) 64) = ((2 ^ j.toNat : Nat) : Int) := by
  have e : ((2 : Int) ^ j.toNat) = ((2 ^ j.toNat : Nat) : Int) := by simp
  have : 2 ^ j.toNat ≤ 2 ^ 61 := Nat.pow_le_pow_right (by omega) (by omega)
  rw [Nat.min_eq_left (by omega), Int.one_mul, e]
  generalize 2 ^ j.toNat = t at this
  exact wrap_small (by omega) (by omega)
theorem c_spec_l01Around {c : Col} {i col : Int} {w : World} {K : Int → World → Prop} (hc : c.Ok) (h0 : 0 ≤ i) (h1 : i < 17) (n1 : c.n ≤ 17) (hK : ∀ w', Below w.heap.size w w' → K (bitsN (fun j => joinB c i j col) c.n.toNat : Nat) w') :
    Fc Try.prog F_spec_l01Around #[c.val, .int .i64 i, .int .i64 col] w (.one (.int .i64)) K := by
  refine walk_spec_l01Around _ _ _ (col_box fun b w1 m1 hx => ?_)
  have q1 := m1.below
  refine lp (fun s w' => Below w1.heap.size w1 w' ∧ ∃ j : Nat, s.2 = j ∧ j ≤ c.n.toNat ∧ s.1 = (bitsN (fun j => joinB c i j col) j : Nat)) (fun s _ => (17 - s.2).toNat) ⟨Below.refl _ _, 0, rfl, by omega, by simp [bitsN]⟩ ?_
  rintro ⟨a, t⟩ w2 N ⟨q2, j, hj, hjn, ha⟩ hN
  simp only at hj ha
  subst hj; subst ha
  unfold B_spec_l01Around_3
  dsimp only
  have hx2 := hx.keep q2
  refine col_n hx2 ⟨fun h => ?_, fun h => ?_⟩
  · have h := dec_t h
    have hlt := bitsN_lt (fun j => joinB c i j col) j
    have hp : 2 ^ j ≤ 2 ^ 17 := Nat.pow_le_pow_right (by omega) (by omega)
    have hs : bitsN (fun j => joinB c i j col) (j + 1) = bitsN (fun j => joinB c i j col) j + if joinB c i j col then 2 ^ j else 0 := rfl
    have no : joinB c i j col = false → ∀ w', Below w1.heap.size w1 w' → N (i, col, ptr b 0) (((bitsN (fun j => joinB c i j col) j : Nat) : Int), IntKind.i64.wrap ((j : Int) + 1)) w' := fun hf w' hb => by
      rw [wrap_small (by omega) (by omega)]
      refine hN _ _ ⟨hb, j + 1, by simp only; omega, by omega, ?_⟩ (by simp only; omega)
      simp only [hs, hf]
      simp
    refine ⟨fun hne => ?_, fun he => ?_⟩
    · have hne := ne_t hne
      refine col_all hc hx2 (c_spec_l01At hc h0 h1 (by omega) (by omega) (Ne.symm hne) fun w3 hb3 => ?_)
      have q3 := q2.trans (hb3.mono q2.size)
      refine ⟨fun hcol => ?_, fun hcol => ?_⟩
      · have hcol := eq_t hcol
        have hyes : joinB c i j col = true := by simp only [joinB, decide_eq_true_eq]; exact ⟨Ne.symm hne, hcol⟩
        refine int_u64 (by omega) (by omega) ⟨by omega, ?_⟩
        have hor := bitsN_or hlt
        rw [wshl (by omega) (by omega), Int.toNat_natCast]
        generalize 2 ^ j = T at hs hlt hp hor ⊢
        rw [wor (by omega) (by omega) (by omega) (by omega), wrap_small (n := (j : Int) + 1) (by omega) (by omega)]
        refine hN _ _ ⟨q3, j + 1, by simp only; omega, by omega, ?_⟩ (by simp only; omega)
        simp only [hs, hyes, if_true, Int.toNat_natCast, hor]
      · exact no (by simp only [joinB, decide_eq_false_iff_not]; exact fun hh => eq_f hcol hh.2) w3 q3
    · exact no (by simp only [joinB, decide_eq_false_iff_not]; exact fun hh => hh.1 (ne_f he).symm) w2 q2
  · have h := dec_f h
    intro _
    have : j = c.n.toNat := by omega
    subst this
    exact hK w2 (q1.trans (q2.mono q1.size))

end Go.Proofs.Ytkadckhealbdaaa

/- The reading of spec_l01Ones, and its contract. No condition. -/
namespace Go.Proofs.Ytkadckhealbdaaa
open Go Go.RowKit Eng Mem
set_option linter.unusedVariables false
set_option maxRecDepth 100000
def B_spec_l01Ones_2 (n0 : Int) (count3 : Int) (N : Unit → (Int × Int) → World → Prop) (D0 : (Int × Unit) → World → Prop) (w : World) : Prop :=
  (((decide (n0 > (0 : Int))) = true → ((2 : Int) ≠ 0 ∧ ((2 : Int) ≠ 0 ∧ N () ((IntKind.i64.wrap (Int.tdiv n0 (2 : Int))), (IntKind.i64.wrap (count3 + (Int.tmod n0 (2 : Int))))) w))) ∧ ((decide (n0 > (0 : Int))) = false → D0 (count3, ()) w))

abbrev L_spec_l01Ones_2_e0 : List Slot := [.junk, .junk, .junk, .k (.int .i64), .junk, .junk, .junk, .junk, .junk, .junk, .junk, .junk, .junk]

abbrev L_spec_l01Ones_2_sp : List Slot := [.k (.int .i64), .junk, .junk, .k (.int .i64), .junk, .junk, .junk, .junk, .junk, .junk, .junk, .junk, .junk]
abbrev L_spec_l01Ones_2_ex : List (Nat × List Slot) := [(0, L_spec_l01Ones_2_e0)]
abbrev L_spec_l01Ones_2_rt : List Slot := [.junk, .junk, .junk, .junk, .junk, .junk, .junk, .junk, .junk, .junk, .junk, .junk, .junk]

def L_spec_l01Ones_2_b (Φ : Post) (u : Unit) (N : Unit → (Int × Int) → World → Prop) (s : (Int × Int)) (w : World) : Prop :=
  B_spec_l01Ones_2 s.1 s.2 N (fun v w => ∀ j : Nat → Value, Φ (.exit 0) (mkT j 0 L_spec_l01Ones_2_e0 v) w) w

theorem L_spec_l01Ones_2_eq (j : Nat → Value) (u : Unit) (s : (Int × Int)) (N : Unit → (Int × Int) → World → Prop) (D0 : (Int × Unit) → World → Prop) (R : (Unit) → World → Prop) (w : World) :
    W Try.prog ty (fun _ _ _ _ => False) (loopAt Try.f116 2) (loopPost L_spec_l01Ones_2_sp [(0, (⟨L_spec_l01Ones_2_e0, D0⟩ : Door))] ⟨L_spec_l01Ones_2_rt, R⟩ (fun v w => N ((fun v => ()) v) ((fun v => (v.1, v.2.1)) v) w)) (mkT j 0 L_spec_l01Ones_2_sp ((fun u s => (s.1, s.2, ())) u s)) w =
    B_spec_l01Ones_2 s.1 s.2 N D0 w := by
  kernel_rfl

def O_spec_l01Ones_1 : Code → Post → List SV → World → Prop :=
  orc 2 (loopAt Try.f116 2) L_spec_l01Ones_2_sp (fun Φ fr w => LOOP (U := Unit) (S := (Int × Int)) ((fun v => ()) (extT L_spec_l01Ones_2_sp fr)) (L_spec_l01Ones_2_b Φ ((fun v => ()) (extT L_spec_l01Ones_2_sp fr))) ((fun v => (v.1, v.2.1)) (extT L_spec_l01Ones_2_sp fr)) w) (fun _ _ _ _ => False)

theorem O_spec_l01Ones_1_ok : Sound Try.prog O_spec_l01Ones_1 :=
  orc_ok (sound_none _) fun Φ fr w hs h => loop_ok (ty := ty) follows (sound_none _) L_spec_l01Ones_2_sp (fun v => ()) (fun v => (v.1, v.2.1)) (fun u s => (s.1, s.2, ())) (fun _ => rfl) L_spec_l01Ones_2_ex L_spec_l01Ones_2_rt (body := L_spec_l01Ones_2_b Φ) (fun j u s w N hb => by
    have e := L_spec_l01Ones_2_eq j u s N (doorOf Φ (.exit 0) L_spec_l01Ones_2_e0).D (doorOf Φ .ret L_spec_l01Ones_2_rt).D w
    exact Eq.mpr e hb) hs h

def V_spec_l01Ones (n0 : Int) (w : World) (K : Int → World → Prop) : Prop :=
  (At (loopAt Try.f116 2) (loopAt Try.f116 2) (LOOP (U := Unit) (S := (Int × Int)) () (fun N_4 s_5 w_6 => B_spec_l01Ones_2 s_5.1 s_5.2 N_4 (fun (v_1 : (Int × Unit)) w_2 => ∀ _j_3 : Nat → Value, K v_1.1 w_2) w_6) (n0, (0 : Int)) w))

theorem eq_spec_l01Ones (n0 : Int) (w : World) (K : Int → World → Prop) :
    W Try.prog ty O_spec_l01Ones_1 (bodyOf Try.f116) (fnPost Try.prog Try.f116.results.toList (.one (.int .i64)) K) (frame0 [(.int .i64 n0)] 13) w = V_spec_l01Ones n0 w K := by
  kernel_rfl

theorem body_spec_l01Ones : Try.f116.body = some (bodyOf Try.f116) := by kernel_rfl
theorem name_spec_l01Ones : (Try.f116.name == "runtime.NumGoroutine") = false := by kernel_rfl

theorem walk_spec_l01Ones (n0 : Int) {w : World} {K : Int → World → Prop} (h : V_spec_l01Ones n0 w K) : Fc Try.prog 116 #[(.int .i64 n0)] w (.one (.int .i64)) K :=
  fn_ok follows O_spec_l01Ones_1_ok Try.func116 name_spec_l01Ones body_spec_l01Ones Try.ntmps116 [(.int .i64 n0)] (Eq.mpr (eq_spec_l01Ones n0 w K) h)

-- uses S8Deg
theorem c_spec_l01Ones {n : Nat} {w : World} {K : Int → World → Prop} (hn : n < 2 ^ 62) (hK : K (onesN n : Int) w) : Fc Try.prog F_spec_l01Ones #[.int .i64 (n : Int)] w (.one (.int .i64)) K := by
  refine walk_spec_l01Ones _ ?_
  have hl := onesN_le hn
  refine lp (fun s w' => w' = w ∧ ∃ m : Nat, s.1 = m ∧ m < 2 ^ 62 ∧ 0 ≤ s.2 ∧ s.2 + onesN m = onesN n) (fun s _ => s.1.toNat) ⟨rfl, n, rfl, hn, by simp, by simp⟩ ?_
  rintro ⟨a, c⟩ w' N ⟨rfl, m, hm, hm2, c0, hc⟩ hN
  simp only at hm c0 hc
  subst hm
  unfold B_spec_l01Ones_2
  dsimp only
  refine ⟨fun h => ⟨by decide, by decide, ?_⟩, fun h => ?_⟩
  · have h := dec_t h
    have hs := onesN_step m
    rw [show Int.tdiv (m : Int) 2 = ((m / 2 : Nat) : Int) from by rw [Int.tdiv_eq_ediv_of_nonneg (by omega)]; omega, show Int.tmod (m : Int) 2 = ((m % 2 : Nat) : Int) from by rw [Int.tmod_eq_emod_of_nonneg (by omega)]; omega,
      wrap_small (n := ((m / 2 : Nat) : Int)) (by omega) (by omega), wrap_small (by omega) (by omega)]
    exact hN _ _ ⟨rfl, m / 2, rfl, by omega, by simp only; omega, by simp only; omega⟩ (by simp only; omega)
  · have h := dec_f h
    have : m = 0 := by omega
    subst this
    intro _
    rw [show c = (onesN n : Int) from by have : onesN 0 = 0 := by simp [onesN]
                                         omega]
    exact hK

end Go.Proofs.Ytkadckhealbdaaa

/- The reading of spec_l06Types, and its contract. No condition. -/
namespace Go.Proofs.Ytkadckhealbdaaa
open Go Go.RowKit Eng Mem
set_option linter.unusedVariables false
set_option maxRecDepth 100000
def B_spec_l06Types_7 (x1 : Value) (out3 : Value) (p4 : Int) (own5 : Int) (c6 : Int) (N : (Value × Value × Int) → (Int × Int) → World → Prop) (D2 : (Value × Value × Int × Int × Unit) → World → Prop) (w : World) : Prop :=
  (QAll Try.prog (Instr.fieldAt 25 x1 1) .any fun (x15_7 : Value) => (QSub Try.prog (Instr.loadAt 2 x15_7) w (.int .i64) fun (x16_8 : Int) => (((decide (c6 < x16_8)) = true → (QSub Try.prog (Instr.loadAt 25 x1) w .any fun (x22_9 : Value) => (Fc Try.prog 117 #[x22_9, (.int .i64 p4), (.int .i64 c6)] w (.one (.int .i64)) fun (x25_11 : Int) w_10 => (Fc Try.prog 116 #[(.int .i64 x25_11)] w_10 (.one (.int .i64)) fun (x26_13 : Int) w_12 => N ((x1 : Value), (out3 : Value), p4) ((IntKind.i64.wrap ((IntKind.i64.wrap (own5 * (18 : Int))) + x26_13)), (IntKind.i64.wrap (c6 + (1 : Int)))) w_12)))) ∧ ((decide (c6 < x16_8)) = false → D2 ((x1 : Value), (out3 : Value), p4, own5, ()) w))))

abbrev L_spec_l06Types_7_e2 : List Slot := [.junk, .k .any, .junk, .k .any, .k (.int .i64), .k (.int .i64), .junk, .junk, .junk, .junk, .junk, .junk, .junk, .junk, .junk, .junk, .junk, .junk, .junk, .junk, .junk, .junk, .junk, .junk, .junk, .junk, .junk, .junk, .junk, .junk, .junk, .junk, .junk]

abbrev L_spec_l06Types_7_sp : List Slot := [.junk, .k .any, .junk, .k .any, .k (.int .i64), .k (.int .i64), .k (.int .i64), .junk, .junk, .junk, .junk, .junk, .junk, .junk, .junk, .junk, .junk, .junk, .junk, .junk, .junk, .junk, .junk, .junk, .junk, .junk, .junk, .junk, .junk, .junk, .junk, .junk, .junk]
abbrev L_spec_l06Types_7_ex : List (Nat × List Slot) := [(2, L_spec_l06Types_7_e2)]
abbrev L_spec_l06Types_7_rt : List Slot := [.junk, .junk, .junk, .junk, .junk, .junk, .junk, .junk, .junk, .junk, .junk, .junk, .junk, .junk, .junk, .junk, .junk, .junk, .junk, .junk, .junk, .junk, .junk, .junk, .junk, .junk, .junk, .junk, .junk, .junk, .junk, .junk, .junk]

def L_spec_l06Types_7_b (Φ : Post) (u : (Value × Value × Int)) (N : (Value × Value × Int) → (Int × Int) → World → Prop) (s : (Int × Int)) (w : World) : Prop :=
  B_spec_l06Types_7 u.1 u.2.1 u.2.2 s.1 s.2 N (fun v w => ∀ j : Nat → Value, Φ (.exit 2) (mkT j 0 L_spec_l06Types_7_e2 v) w) w

theorem L_spec_l06Types_7_eq (j : Nat → Value) (u : (Value × Value × Int)) (s : (Int × Int)) (N : (Value × Value × Int) → (Int × Int) → World → Prop) (D2 : (Value × Value × Int × Int × Unit) → World → Prop) (R : (Unit) → World → Prop) (w : World) :
    W Try.prog ty (fun _ _ _ _ => False) (loopAt Try.f96 7) (loopPost L_spec_l06Types_7_sp [(2, (⟨L_spec_l06Types_7_e2, D2⟩ : Door))] ⟨L_spec_l06Types_7_rt, R⟩ (fun v w => N ((fun v => (v.1, v.2.1, v.2.2.1)) v) ((fun v => (v.2.2.2.1, v.2.2.2.2.1)) v) w)) (mkT j 0 L_spec_l06Types_7_sp ((fun u s => (u.1, u.2.1, u.2.2, s.1, s.2, ())) u s)) w =
    B_spec_l06Types_7 u.1 u.2.1 u.2.2 s.1 s.2 N D2 w := by
  kernel_rfl

def O_spec_l06Types_1 : Code → Post → List SV → World → Prop :=
  orc 7 (loopAt Try.f96 7) L_spec_l06Types_7_sp (fun Φ fr w => LOOP (U := (Value × Value × Int)) (S := (Int × Int)) ((fun v => (v.1, v.2.1, v.2.2.1)) (extT L_spec_l06Types_7_sp fr)) (L_spec_l06Types_7_b Φ ((fun v => (v.1, v.2.1, v.2.2.1)) (extT L_spec_l06Types_7_sp fr))) ((fun v => (v.2.2.2.1, v.2.2.2.2.1)) (extT L_spec_l06Types_7_sp fr)) w) (fun _ _ _ _ => False)

theorem O_spec_l06Types_1_ok : Sound Try.prog O_spec_l06Types_1 :=
  orc_ok (sound_none _) fun Φ fr w hs h => loop_ok (ty := ty) follows (sound_none _) L_spec_l06Types_7_sp (fun v => (v.1, v.2.1, v.2.2.1)) (fun v => (v.2.2.2.1, v.2.2.2.2.1)) (fun u s => (u.1, u.2.1, u.2.2, s.1, s.2, ())) (fun _ => rfl) L_spec_l06Types_7_ex L_spec_l06Types_7_rt (body := L_spec_l06Types_7_b Φ) (fun j u s w N hb => by
    have e := L_spec_l06Types_7_eq j u s N (doorOf Φ (.exit 2) L_spec_l06Types_7_e2).D (doorOf Φ .ret L_spec_l06Types_7_rt).D w
    exact Eq.mpr e hb) hs h

def B_spec_l06Types_3 (x1 : Value) (out3 : Value) (p4 : Int) (N : Value → (Value × Int) → World → Prop) (D0 : (Value × Unit) → World → Prop) (w : World) : Prop :=
  (QAll Try.prog (Instr.fieldAt 25 x1 0) .any fun (x9_5 : Value) => (QSub Try.prog (Instr.loadAt 2 x9_5) w (.int .i64) fun (x10_6 : Int) => (((decide (p4 < x10_6)) = true → (At (loopAt Try.f96 7) (loopAt Try.f96 7) (LOOP (U := (Value × Value × Int)) (S := (Int × Int)) ((x1 : Value), (out3 : Value), p4) (fun N_21 s_22 w_23 => B_spec_l06Types_7 (x1 : Value) (out3 : Value) p4 s_22.1 s_22.2 N_21 (fun (v_14 : (Value × Value × Int × Int × Unit)) w_15 => ∀ _j_16 : Nat → Value, (Pr Try.prog (Instr.buildSlice 31 1 #[(0, (.int .i64 v_14.2.2.2.1))]) w_15 (.one .any) fun (x30_18 : Value) w_17 => (Pr Try.prog (Builtin.append_ #[31, 31] 31 #[v_14.2.1, x30_18]) w_17 (.one .any) fun (x31_20 : Value) w_19 => N (v_14.1 : Value) ((x31_20 : Value), (IntKind.i64.wrap (v_14.2.2.1 + (1 : Int)))) w_19))) w_23) ((0 : Int), (0 : Int)) w))) ∧ ((decide (p4 < x10_6)) = false → D0 ((out3 : Value), ()) w))))

abbrev L_spec_l06Types_3_e0 : List Slot := [.junk, .junk, .junk, .k .any, .junk, .junk, .junk, .junk, .junk, .junk, .junk, .junk, .junk, .junk, .junk, .junk, .junk, .junk, .junk, .junk, .junk, .junk, .junk, .junk, .junk, .junk, .junk, .junk, .junk, .junk, .junk, .junk, .junk]

abbrev L_spec_l06Types_3_sp : List Slot := [.junk, .k .any, .junk, .k .any, .k (.int .i64), .junk, .junk, .junk, .junk, .junk, .junk, .junk, .junk, .junk, .junk, .junk, .junk, .junk, .junk, .junk, .junk, .junk, .junk, .junk, .junk, .junk, .junk, .junk, .junk, .junk, .junk, .junk, .junk]
abbrev L_spec_l06Types_3_ex : List (Nat × List Slot) := [(0, L_spec_l06Types_3_e0)]
abbrev L_spec_l06Types_3_rt : List Slot := [.junk, .junk, .junk, .junk, .junk, .junk, .junk, .junk, .junk, .junk, .junk, .junk, .junk, .junk, .junk, .junk, .junk, .junk, .junk, .junk, .junk, .junk, .junk, .junk, .junk, .junk, .junk, .junk, .junk, .junk, .junk, .junk, .junk]

def L_spec_l06Types_3_b (Φ : Post) (u : Value) (N : Value → (Value × Int) → World → Prop) (s : (Value × Int)) (w : World) : Prop :=
  B_spec_l06Types_3 u s.1 s.2 N (fun v w => ∀ j : Nat → Value, Φ (.exit 0) (mkT j 0 L_spec_l06Types_3_e0 v) w) w

theorem L_spec_l06Types_3_eq (j : Nat → Value) (u : Value) (s : (Value × Int)) (N : Value → (Value × Int) → World → Prop) (D0 : (Value × Unit) → World → Prop) (R : (Unit) → World → Prop) (w : World) :
    W Try.prog ty O_spec_l06Types_1 (loopAt Try.f96 3) (loopPost L_spec_l06Types_3_sp [(0, (⟨L_spec_l06Types_3_e0, D0⟩ : Door))] ⟨L_spec_l06Types_3_rt, R⟩ (fun v w => N ((fun v => v.1) v) ((fun v => (v.2.1, v.2.2.1)) v) w)) (mkT j 0 L_spec_l06Types_3_sp ((fun u s => (u, s.1, s.2, ())) u s)) w =
    B_spec_l06Types_3 u s.1 s.2 N D0 w := by
  kernel_rfl

def O_spec_l06Types_2 : Code → Post → List SV → World → Prop :=
  orc 3 (loopAt Try.f96 3) L_spec_l06Types_3_sp (fun Φ fr w => LOOP (U := Value) (S := (Value × Int)) ((fun v => v.1) (extT L_spec_l06Types_3_sp fr)) (L_spec_l06Types_3_b Φ ((fun v => v.1) (extT L_spec_l06Types_3_sp fr))) ((fun v => (v.2.1, v.2.2.1)) (extT L_spec_l06Types_3_sp fr)) w) O_spec_l06Types_1

theorem O_spec_l06Types_2_ok : Sound Try.prog O_spec_l06Types_2 :=
  orc_ok O_spec_l06Types_1_ok fun Φ fr w hs h => loop_ok (ty := ty) follows O_spec_l06Types_1_ok L_spec_l06Types_3_sp (fun v => v.1) (fun v => (v.2.1, v.2.2.1)) (fun u s => (u, s.1, s.2, ())) (fun _ => rfl) L_spec_l06Types_3_ex L_spec_l06Types_3_rt (body := L_spec_l06Types_3_b Φ) (fun j u s w N hb => by
    have e := L_spec_l06Types_3_eq j u s N (doorOf Φ (.exit 0) L_spec_l06Types_3_e0).D (doorOf Φ .ret L_spec_l06Types_3_rt).D w
    exact Eq.mpr e hb) hs h

def V_spec_l06Types (x0 : Value) (w : World) (K : Value → World → Prop) : Prop :=
  (Pr Try.prog (Instr.box 25 x0) w (.one .any) fun (x1_2 : Value) w_1 => (Pr Try.prog (Instr.buildSlice 31 0 #[]) w_1 (.one .any) fun (x7_4 : Value) w_3 => (At (loopAt Try.f96 3) (loopAt Try.f96 3) (LOOP (U := Value) (S := (Value × Int)) (x1_2 : Value) (fun N_27 s_28 w_29 => B_spec_l06Types_3 (x1_2 : Value) s_28.1 s_28.2 N_27 (fun (v_24 : (Value × Unit)) w_25 => ∀ _j_26 : Nat → Value, K (v_24.1 : Value) w_25) w_29) ((x7_4 : Value), (0 : Int)) w_3))))

theorem eq_spec_l06Types (x0 : Value) (w : World) (K : Value → World → Prop) :
    W Try.prog ty O_spec_l06Types_2 (bodyOf Try.f96) (fnPost Try.prog Try.f96.results.toList (.one .any) K) (frame0 [x0] 33) w = V_spec_l06Types x0 w K := by
  kernel_rfl

theorem body_spec_l06Types : Try.f96.body = some (bodyOf Try.f96) := by kernel_rfl
theorem name_spec_l06Types : (Try.f96.name == "runtime.NumGoroutine") = false := by kernel_rfl

theorem walk_spec_l06Types (x0 : Value) {w : World} {K : Value → World → Prop} (h : V_spec_l06Types x0 w K) : Fc Try.prog 96 #[x0] w (.one .any) K :=
  fn_ok follows O_spec_l06Types_2_ok Try.func96 name_spec_l06Types body_spec_l06Types Try.ntmps96 [x0] (Eq.mpr (eq_spec_l06Types x0 w K) h)

-- uses S9IsoS
theorem c_spec_l06Types {x : Col} {w : World} {K : Value → World → Prop} (hx : x.Ok) (hI : x.Is) (hK : ∀ v w' b, w.heap.size ≤ b → Below w.heap.size w w' → OwnI w' b v (typesL x x.n.toNat) → K v w') :
    Fc Try.prog F_spec_l06Types #[x.val] w (.one .any) K := by
  have n0 := hI.1; have n1 := hI.2.1; have k0 := hI.2.2.1; have k4 := hI.2.2.2.1
  refine walk_spec_l06Types _ (col_box fun b1 w1 m1 ax => nilI fun b0 v0 w2 e0 q2 o0 => ?_)
  have q1 := m1.below
  have q12 := q1.trans (q2.mono q1.size)
  have ax2 := ax.keep q2
  have hs1 := q1.size; have hs2 := q12.size
  have bd : ∀ (i : Int) (c : Nat), c ≤ 4 → 0 ≤ typeN x i c ∧ typeN x i c < 104976 := fun i c hc => by
    have := typeN_bd n1 i c
    have e : (18 : Int) ^ c ≤ 104976 := by
      have : c = 0 ∨ c = 1 ∨ c = 2 ∨ c = 3 ∨ c = 4 := by omega
      rcases this with h | h | h | h | h <;> subst h <;> decide
    omega
  refine lp (fun s w' => Below w1.heap.size w1 w' ∧ ∃ (i b : Nat), s.2 = i ∧ i ≤ x.n.toNat ∧ w1.heap.size ≤ b ∧ OwnI w' b s.1 (typesL x i)) (fun s _ => (17 - s.2).toNat) ⟨q2, 0, b0, rfl, by omega, by omega, o0⟩ ?_
  rintro ⟨v, t⟩ w3 N ⟨q3, i, b, hi, hin, hb, ho⟩ hN
  simp only at hi ho
  subst hi
  unfold B_spec_l06Types_3
  dsimp only
  refine col_n (ax.keep q3) ⟨fun hlt => ?_, fun hge => ?_⟩
  · have hlt := dec_t hlt
    refine lp (fun s w' => Below w3.heap.size w3 w' ∧ ∃ c : Nat, s.2 = c ∧ c ≤ x.k.toNat ∧ s.1 = typeN x i c) (fun s _ => (17 - s.2).toNat) ⟨Below.refl _ _, 0, rfl, by omega, rfl⟩ ?_
    rintro ⟨own, t⟩ w4 N' ⟨q4, c, hc, hck, hown⟩ hN'
    simp only at hc hown
    subst hc; subst hown
    unfold B_spec_l06Types_7
    dsimp only
    have q34 := q3.trans (q4.mono q3.size)
    refine col_k (ax.keep q34) ⟨fun hlt2 => ?_, fun hge2 => ?_⟩
    · have hlt2 := dec_t hlt2
      refine col_all hx (ax.keep q34) (c_spec_l01Around hx (by omega) (by omega) n1 fun w5 q5 => c_spec_l01Ones (Nat.lt_of_lt_of_le (bitsN_lt _ _) (Nat.pow_le_pow_right (by omega) (by omega))) ?_)
      rw [onesN_bits]
      have hd : (List.range x.n.toNat).countP (fun j : Nat => joinB x i j c) = degN x i c := rfl
      rw [hd]
      have b1 := bd i c (by omega)
      have b2 := bd i (c + 1) (by omega)
      have hs : typeN x i (c + 1) = typeN x i c * 18 + degN x i c := rfl
      rw [wrap_small (n := typeN x i c * 18) (by omega) (by omega), wrap_small (n := (c : Int) + 1) (by omega) (by omega), wrap_small (by omega) (by omega)]
      exact hN' _ _ ⟨q4.trans (q5.mono q4.size), c + 1, by simp only; omega, by omega, by simp only [hs]⟩ (by simp only; omega)
    · have hge2 := dec_f hge2
      have : c = x.k.toNat := by omega
      subst this
      intro _
      have hs3 := q34.size
      refine appI (ho.keep q4) (by rw [typesL_len]; omega) fun v' w5 b' o5 m5 hb5 => ?_
      rw [wrap_small (by omega) (by omega)]
      have hz3 := q3.size; have hz4 := q4.size
      refine hN _ _ ⟨q34.trans (m5.below (by omega) (by simp; omega)), i + 1, b', by simp only; omega, by omega, by omega, ?_⟩ (by simp only; omega)
      rw [typesL_succ]
      exact o5
  · have hge := dec_f hge
    have : i = x.n.toNat := by omega
    subst this
    intro _
    exact hK v w3 b (by omega) (q1.trans (q3.mono hs1)) ho

end Go.Proofs.Ytkadckhealbdaaa

/- The reading of spec_l06Between, and its contract. No condition. -/
namespace Go.Proofs.Ytkadckhealbdaaa
open Go Go.RowKit Eng Mem
set_option linter.unusedVariables false
set_option maxRecDepth 100000
def V_spec_l06Between (x0 : Value) (y1 : Value) (most2 : Int) (w : World) (K : Value → World → Prop) : Prop :=
  (Pr Try.prog (Instr.box 25 x0) w (.one .any) fun (x3_2 : Value) w_1 => (Pr Try.prog (Instr.box 25 y1) w_1 (.one .any) fun (y4_4 : Value) w_3 => (∀ w_5, Drew w_3 w_5 → (QSub Try.prog (Instr.loadAt 25 x3_2) w_5 .any fun (x8_6 : Value) => (QSub Try.prog (Instr.loadAt 25 y4_4) w_5 .any fun (x9_7 : Value) => (QSub Try.prog (Instr.loadAt 25 x3_2) w_5 .any fun (x10_8 : Value) => (QSub Try.prog (Instr.loadAt 25 y4_4) w_5 .any fun (x12_9 : Value) => (Fc Try.prog 96 #[x10_8] w_5 (.one .any) fun (x11_11 : Value) w_10 => (Keeps w_5 w_10 ((Fc Try.prog 96 #[x12_9] w_10 (.one .any) fun (x13_13 : Value) w_12 => (Keeps w_5 w_12 ((Pr Try.prog (Instr.build 73 #[(0, x8_6), (1, x9_7), (2, x11_11), (3, x13_13), (4, (.int .i64 most2))]) w_12 (.one .any) fun (x15_15 : Value) w_14 => (Keeps w_5 w_14 ((Pr Try.prog (Instr.box 73 x15_15) w_14 (.one .any) fun (x16_17 : Value) w_16 => (Keeps w_5 w_16 ((QAll Try.prog (Instr.fieldAt 25 x3_2 0) .any fun (x17_18 : Value) => (QSub Try.prog (Instr.loadAt 2 x17_18) w_16 (.int .i64) fun (x18_19 : Int) => (QAll Try.prog (Instr.fieldAt 25 y4_4 0) .any fun (x19_20 : Value) => (QSub Try.prog (Instr.loadAt 2 x19_20) w_16 (.int .i64) fun (x20_21 : Int) => (((x18_19 != x20_21) = true → K (x16_17 : Value) w_16) ∧ ((x18_19 != x20_21) = false → (QAll Try.prog (Instr.fieldAt 25 x3_2 1) .any fun (x23_22 : Value) => (QSub Try.prog (Instr.loadAt 2 x23_22) w_16 (.int .i64) fun (x24_23 : Int) => (QAll Try.prog (Instr.fieldAt 25 y4_4 1) .any fun (x25_24 : Value) => (QSub Try.prog (Instr.loadAt 2 x25_24) w_16 (.int .i64) fun (x26_25 : Int) => (((x24_23 != x26_25) = true → K (x16_17 : Value) w_16) ∧ ((x24_23 != x26_25) = false → (Pr Try.prog (Instr.buildSlice 31 0 #[]) w_16 (.one .any) fun (x31_27 : Value) w_26 => (Fc Try.prog 97 #[x16_17, x31_27, (.int .i64 (0 : Int))] w_26 .unit fun (x32_29 : Unit) w_28 => K (x16_17 : Value) w_28)))))))))))))))))))))))))))))))))

theorem eq_spec_l06Between (x0 : Value) (y1 : Value) (most2 : Int) (w : World) (K : Value → World → Prop) :
    W Try.prog ty (fun _ _ _ _ => False) (bodyOf Try.f66) (fnPost Try.prog Try.f66.results.toList (.one .any) K) (frame0 [x0, y1, (.int .i64 most2)] 34) w = V_spec_l06Between x0 y1 most2 w K := by
  kernel_rfl

theorem body_spec_l06Between : Try.f66.body = some (bodyOf Try.f66) := by kernel_rfl
theorem name_spec_l06Between : (Try.f66.name == "runtime.NumGoroutine") = false := by kernel_rfl

theorem walk_spec_l06Between (x0 : Value) (y1 : Value) (most2 : Int) {w : World} {K : Value → World → Prop} (h : V_spec_l06Between x0 y1 most2 w K) : Fc Try.prog 66 #[x0, y1, (.int .i64 most2)] w (.one .any) K :=
  fn_ok follows (sound_none _) Try.func66 name_spec_l06Between body_spec_l06Between Try.ntmps66 [x0, y1, (.int .i64 most2)] (Eq.mpr (eq_spec_l06Between x0 y1 most2 w K) h)

-- uses S9IsoS
theorem c_spec_l06Between {x y : Col} {w : World} {K : Value → World → Prop} (hx : x.Ok) (hy : y.Ok) (Ix : x.Is) (Iy : y.Is)
    (hn : isoOf x y = none → ∀ w' b one two, w.heap.size ≤ b → Below w.heap.size w w' → SrAt w' b x y one two 1 0 (.slice none 0 0) → K (ptr b 0) w')
    (hs : ∀ l, isoOf x y = some l → ∀ w' b one two u c, w.heap.size ≤ b → Below w.heap.size w w' → w.heap.size ≤ c → OwnI w' c u l → SrAt w' b x y one two 1 1 u → K (ptr b 0) w') :
    Fc Try.prog F_spec_l06Between #[x.val, y.val, .int .i64 1] w (.one .any) K := by
  have n0 := Ix.1; have n1 := Ix.2.1
  unfold isoOf at hn hs
  refine walk_spec_l06Between _ _ _ (col_box fun b1 w1 m1 ax => col_box fun b2 w2 m2 ay => ?_)
  have q2 := m1.below.trans (m2.below.mono m1.below.size)
  have ax := ax.keep m2.below
  intro w3 hd
  have q3 := q2.trans (hd.below w.heap.size)
  have b23 := hd.below w2.heap.size
  have ax3 := ax.keep b23
  have ay3 := ay.keep b23
  refine col_all hx ax3 (col_all hy ay3 (col_all hx ax3 (col_all hy ay3 (c_spec_l06Types hx Ix fun one w4 c4 hc4 q4 o4 => ⟨q4, c_spec_l06Types hy Iy fun two w5 c5 hc5 q5 o5 => ?_⟩))))
  have q45 := q4.trans (q5.mono q4.size)
  refine ⟨q45, ?_⟩
  have hlx := typesL_len x x.n.toNat
  have hly := typesL_len y y.n.toNat
  have ny := Iy.2.1
  refine ⟨_, w5, buildSr hx hy (slI_cells (own_slI o4 (by omega))) (slI_cells (own_slI o5 (by omega))) 1 w5, q45, box _ rfl fun b w6 m6 => ?_⟩
  have q6 := q45.trans (m6.below.mono q45.size)
  refine ⟨q6, ?_⟩
  have hsr : SrAt w6 b x y one two 1 0 (.slice none 0 0) := ⟨m6.at_⟩
  have e6 := m6.here
  have q36 := q3.trans (q6.mono q3.size)
  have hz := q3.size; have hz6 := q6.size; have hz45 := q45.size
  have ax6 := ax3.keep q6
  have ay6 := ay3.keep q6
  have hb : w.heap.size ≤ b := by omega
  refine col_n ax6 (col_n ay6 ⟨fun h => ?_, fun h => col_k ax6 (col_k ay6 ⟨fun h2 => ?_, fun h2 => nilI fun b0 v0 w7 e0 q7 o7 => ?_⟩)⟩)
  · rw [if_neg (fun hh => ne_t h hh.1)] at hn
    exact hn rfl w6 b one two hb q36 hsr
  · rw [if_neg (fun hh => ne_t h2 hh.2)] at hn
    exact hn rfl w6 b one two hb q36 hsr
  have hxy := ne_f h; have hk := ne_f h2
  rw [if_pos ⟨hxy, hk⟩] at hn hs
  have q37 := q36.trans (q7.mono q36.size)
  have o46 := ((o4.keep q5).keep m6.below).keep q7
  have o56 := (o5.keep m6.below).keep q7
  have hz7 := q37.size
  refine c_spec_l06Go (first := .slice none 0 0) w.heap.size hx hy Ix Iy hxy hk x.n.toNat [] v0 0 w7 _ (by simp) hz7 (hsr.keep q7) (own_slI o46 (by omega)) (own_slI o56 (by omega)) (own_slI o7 (by simp)) (by simp) (by decide) bits_empty (fun hnone w8 q8 => ?_) (fun l hsome w8 u c m8 hc ho hs8 => ?_)
  · exact hn hnone w8 b one two hb (q37.trans (q8.mono hz7)) ((hsr.keep q7).keep q8)
  · exact hs l hsome w8 b one two u c hb (q37.trans (m8.below (by omega) (by simp; omega))) hc ho hs8

end Go.Proofs.Ytkadckhealbdaaa

/- The reading of spec_FindRenumbering, and its contract. No condition. -/
namespace Go.Proofs.Ytkadckhealbdaaa
open Go Go.RowKit Eng Mem
set_option linter.unusedVariables false
set_option maxRecDepth 100000
def V_spec_FindRenumbering (x0 : Value) (y1 : Value) (w : World) (K : (Value × Int) → World → Prop) : Prop :=
  (Pr Try.prog (Instr.box 25 x0) w (.one .any) fun (x2_2 : Value) w_1 => (Pr Try.prog (Instr.box 25 y1) w_1 (.one .any) fun (y3_4 : Value) w_3 => (QSub Try.prog (Instr.loadAt 25 x2_2) w_3 .any fun (x7_5 : Value) => (Fc Try.prog 65 #[x7_5] w_3 (.one .bool) fun (x8_7 : Bool) w_6 => (((!x8_7) = true → K (((.slice none 0 0) : Value), (1 : Int)) w_6) ∧ ((!x8_7) = false → (QSub Try.prog (Instr.loadAt 25 y3_4) w_6 .any fun (x11_8 : Value) => (Fc Try.prog 65 #[x11_8] w_6 (.one .bool) fun (x12_10 : Bool) w_9 => (((!x12_10) = true → K (((.slice none 0 0) : Value), (1 : Int)) w_9) ∧ ((!x12_10) = false → (QSub Try.prog (Instr.loadAt 25 x2_2) w_9 .any fun (x15_11 : Value) => (QSub Try.prog (Instr.loadAt 25 y3_4) w_9 .any fun (x16_12 : Value) => (Fc Try.prog 66 #[x15_11, x16_12, (.int .i64 (1 : Int))] w_9 (.one .any) fun (x17_14 : Value) w_13 => (NilOk x17_14 ∧ (QAll Try.prog (Instr.fieldAt 73 x17_14 5) .any fun (x20_15 : Value) => (QSub Try.prog (Instr.loadAt 2 x20_15) w_13 (.int .i64) fun (x21_16 : Int) => (((x21_16 == (0 : Int)) = true → K (((.slice none 0 0) : Value), (4 : Int)) w_13) ∧ ((x21_16 == (0 : Int)) = false → (NilOk x17_14 ∧ (QAll Try.prog (Instr.fieldAt 73 x17_14 6) .any fun (x25_17 : Value) => (QSub Try.prog (Instr.loadAt 31 x25_17) w_13 .any fun (x26_18 : Value) => K ((x26_18 : Value), (0 : Int)) w_13)))))))))))))))))))))

theorem eq_spec_FindRenumbering (x0 : Value) (y1 : Value) (w : World) (K : (Value × Int) → World → Prop) :
    W Try.prog ty (fun _ _ _ _ => False) (bodyOf Try.f32) (fnPost Try.prog Try.f32.results.toList (.two .any (.int .i64)) K) (frame0 [x0, y1] 27) w = V_spec_FindRenumbering x0 y1 w K := by
  kernel_rfl

theorem body_spec_FindRenumbering : Try.f32.body = some (bodyOf Try.f32) := by kernel_rfl
theorem name_spec_FindRenumbering : (Try.f32.name == "runtime.NumGoroutine") = false := by kernel_rfl

theorem walk_spec_FindRenumbering (x0 : Value) (y1 : Value) {w : World} {K : (Value × Int) → World → Prop} (h : V_spec_FindRenumbering x0 y1 w K) : Fc Try.prog 32 #[x0, y1] w (.two .any (.int .i64)) K :=
  fn_ok follows (sound_none _) Try.func32 name_spec_FindRenumbering body_spec_FindRenumbering Try.ntmps32 [x0, y1] (Eq.mpr (eq_spec_FindRenumbering x0 y1 w K) h)

-- uses S9IsoS
theorem c_spec_FindRenumbering {x y : Col} {w : World} {K : Value × Int → World → Prop} (hx : x.Ok) (hy : y.Ok)
    (hK : ∀ w' v, Below w.heap.size w w' → MyI w.heap.size w'.heap.size w' v (findI x y).1 → K (v, (findI x y).2) w') : Fc Try.prog F_spec_FindRenumbering #[x.val, y.val] w (.two .any (.int .i64)) K := by
  unfold findI at hK
  refine walk_spec_FindRenumbering _ _ (col_box fun b1 w1 m1 ax => col_box fun b2 w2 m2 ay => ?_)
  have q2 := m1.below.trans (m2.below.mono m1.below.size)
  have ax := ax.keep m2.below
  refine col_all hx ax (c_spec_l01Is hx fun w3 q3 => ⟨fun h => ?_, fun h => col_all hy (ay.keep q3) (c_spec_l01Is hy fun w4 q4 => ⟨fun h2 => ?_, fun h2 => ?_⟩)⟩)
  · rw [if_neg (fun hh => notd_t h hh.1)] at hK
    exact hK w3 _ (q2.trans (q3.mono q2.size)) (myI_nil _ _ _)
  · rw [if_neg (fun hh => notd_t h2 hh.2)] at hK
    exact hK w4 _ ((q2.trans (q3.mono q2.size)).trans (q4.mono (by have := q2.size; have := q3.size; omega))) (myI_nil _ _ _)
  have Ix := notd_f h; have Iy := notd_f h2
  rw [if_pos ⟨Ix, Iy⟩] at hK
  have q4' := (q2.trans (q3.mono q2.size)).trans (q4.mono (by have := q2.size; have := q3.size; omega))
  have hs := q4'.size
  have nn : ∀ b, NilOk (ptr b 0) := fun b => .inl ⟨_, rfl⟩
  refine col_all hx ((ax.keep q3).keep q4) (col_all hy ((ay.keep q3).keep q4) (c_spec_l06Between hx hy Ix Iy (fun hnone w5 b one two hb q5 hsr => ?_) (fun l hsome w5 b one two u c hb q5 hc ho hsr => ?_)))
  · rw [hnone] at hK
    refine ⟨nn b, fldp sr5 (ld (k := .int .i64) yI (hsr.tail hx hy 3 rfl) ⟨fun _ => ?_, fun h => absurd rfl (eq_f h)⟩)⟩
    exact hK w5 _ (q4'.trans (q5.mono hs)) (myI_nil _ _ _)
  · rw [hsome] at hK
    refine ⟨nn b, fldp sr5 (ld (k := .int .i64) yI (hsr.tail hx hy 3 rfl) ⟨fun h => absurd (eq_t h) (by omega), fun _ => ⟨nn b, fldp sr6 (ld (k := .any) y1SI (hsr.tail hx hy 4 rfl) ?_)⟩⟩)⟩
    have hl := iso_len hsome
    exact hK w5 u (q4'.trans (q5.mono hs)) (own_my ho (by show l.length ≤ 1099511627776; have := Ix.2.1; omega) (by omega) ho.lt)

end Go.Proofs.Ytkadckhealbdaaa
