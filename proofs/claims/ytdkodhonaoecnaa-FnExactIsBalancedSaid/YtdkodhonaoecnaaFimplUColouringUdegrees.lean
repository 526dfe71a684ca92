/- The reading of impl_Colouring_degrees, and its contract. No condition. -/
import Derived.Test.YtdkodhonaoecnaaTy
import Derived.Test.YtdkodhonaoecnaaS9Bal
import Derived.Test.YtdkodhonaoecnaaFimplUColouringUneighbours
import Derived.Test.YtdkodhonaoecnaaFimplUsizeS
namespace Go.Proofs.Ytdkodhonaoecnaa
open Go Go.RowKit Eng Mem
set_option linter.unusedVariables false
set_option maxRecDepth 100000
def B_impl_Colouring_degrees_3 (x0 : Value) (c1 : Int) (x11 : Int) (out5 : Value) (x12 : Int) (N : (Value × Int × Int) → (Value × Int) → World → Prop) (D0 : (Value × Unit) → World → Prop) (w : World) : Prop :=
  (((decide (x12 < x11)) = true → (Fc Try.prog 120 #[x0, (.int .i64 x12), (.int .i64 c1)] w (.one .any) fun (x19_6 : Value) w_5 => (Fc Try.prog 63 #[x19_6] w_5 (.one (.int .i64)) fun (x20_8 : Int) w_7 => (Pr Try.prog (Instr.buildSlice 25 1 #[(0, (.int .i64 x20_8))]) w_7 (.one .any) fun (x21_10 : Value) w_9 => (Pr Try.prog (Builtin.append_ #[25, 25] 25 #[out5, x21_10]) w_9 (.one .any) fun (x22_12 : Value) w_11 => N ((x0 : Value), c1, x11) ((x22_12 : Value), (IntKind.i64.wrap (x12 + (1 : Int)))) w_11))))) ∧ ((decide (x12 < x11)) = false → D0 ((out5 : Value), ()) w))

abbrev L_impl_Colouring_degrees_3_e0 : List Slot := [.junk, .junk, .junk, .junk, .junk, .k .any, .junk, .junk, .junk, .junk, .junk, .junk, .junk, .junk, .junk, .junk, .junk, .junk, .junk, .junk, .junk, .junk, .junk, .junk, .junk]

abbrev L_impl_Colouring_degrees_3_sp : List Slot := [.k .any, .k (.int .i64), .junk, .junk, .junk, .k .any, .junk, .junk, .junk, .junk, .junk, .k (.int .i64), .k (.int .i64), .junk, .junk, .junk, .junk, .junk, .junk, .junk, .junk, .junk, .junk, .junk, .junk]
abbrev L_impl_Colouring_degrees_3_ex : List (Nat × List Slot) := [(0, L_impl_Colouring_degrees_3_e0)]
abbrev L_impl_Colouring_degrees_3_rt : List Slot := [.junk, .junk, .junk, .junk, .junk, .junk, .junk, .junk, .junk, .junk, .junk, .junk, .junk, .junk, .junk, .junk, .junk, .junk, .junk, .junk, .junk, .junk, .junk, .junk, .junk]

def L_impl_Colouring_degrees_3_b (Φ : Post) (u : (Value × Int × Int)) (N : (Value × Int × Int) → (Value × Int) → World → Prop) (s : (Value × Int)) (w : World) : Prop :=
  B_impl_Colouring_degrees_3 u.1 u.2.1 u.2.2 s.1 s.2 N (fun v w => ∀ j : Nat → Value, Φ (.exit 0) (mkT j 0 L_impl_Colouring_degrees_3_e0 v) w) w

theorem L_impl_Colouring_degrees_3_eq (j : Nat → Value) (u : (Value × Int × Int)) (s : (Value × Int)) (N : (Value × Int × Int) → (Value × Int) → World → Prop) (D0 : (Value × Unit) → World → Prop) (R : (Unit) → World → Prop) (w : World) :
    W Try.prog ty (fun _ _ _ _ => False) (loopAt Try.f85 3) (loopPost L_impl_Colouring_degrees_3_sp [(0, (⟨L_impl_Colouring_degrees_3_e0, D0⟩ : Door))] ⟨L_impl_Colouring_degrees_3_rt, R⟩ (fun v w => N ((fun v => (v.1, v.2.1, v.2.2.2.1)) v) ((fun v => (v.2.2.1, v.2.2.2.2.1)) v) w)) (mkT j 0 L_impl_Colouring_degrees_3_sp ((fun u s => (u.1, u.2.1, s.1, u.2.2, s.2, ())) u s)) w =
    B_impl_Colouring_degrees_3 u.1 u.2.1 u.2.2 s.1 s.2 N D0 w := by
  kernel_rfl

def O_impl_Colouring_degrees_1 : Code → Post → List SV → World → Prop :=
  orc 3 (loopAt Try.f85 3) L_impl_Colouring_degrees_3_sp (fun Φ fr w => LOOP (U := (Value × Int × Int)) (S := (Value × Int)) ((fun v => (v.1, v.2.1, v.2.2.2.1)) (extT L_impl_Colouring_degrees_3_sp fr)) (L_impl_Colouring_degrees_3_b Φ ((fun v => (v.1, v.2.1, v.2.2.2.1)) (extT L_impl_Colouring_degrees_3_sp fr))) ((fun v => (v.2.2.1, v.2.2.2.2.1)) (extT L_impl_Colouring_degrees_3_sp fr)) w) (fun _ _ _ _ => False)

theorem O_impl_Colouring_degrees_1_ok : Sound Try.prog O_impl_Colouring_degrees_1 :=
  orc_ok (sound_none _) fun Φ fr w hs h => loop_ok (ty := ty) follows (sound_none _) L_impl_Colouring_degrees_3_sp (fun v => (v.1, v.2.1, v.2.2.2.1)) (fun v => (v.2.2.1, v.2.2.2.2.1)) (fun u s => (u.1, u.2.1, s.1, u.2.2, s.2, ())) (fun _ => rfl) L_impl_Colouring_degrees_3_ex L_impl_Colouring_degrees_3_rt (body := L_impl_Colouring_degrees_3_b Φ) (fun j u s w N hb => by
    have e := L_impl_Colouring_degrees_3_eq j u s N (doorOf Φ (.exit 0) L_impl_Colouring_degrees_3_e0).D (doorOf Φ .ret L_impl_Colouring_degrees_3_rt).D w
    exact Eq.mpr e hb) hs h

def V_impl_Colouring_degrees (x0 : Value) (c1 : Int) (w : World) (K : Value → World → Prop) : Prop :=
  (Pr Try.prog (Instr.buildSlice 25 0 #[]) w (.one .any) fun (x7_2 : Value) w_1 => (NilOk x0 ∧ (QAll Try.prog (Instr.fieldAt 28 x0 0) .any fun (x10_3 : Value) => (QSub Try.prog (Instr.loadAt 2 x10_3) w_1 (.int .i64) fun (x11_4 : Int) => (At (loopAt Try.f85 3) (loopAt Try.f85 3) (LOOP (U := (Value × Int × Int)) (S := (Value × Int)) ((x0 : Value), c1, x11_4) (fun N_16 s_17 w_18 => B_impl_Colouring_degrees_3 (x0 : Value) c1 x11_4 s_17.1 s_17.2 N_16 (fun (v_13 : (Value × Unit)) w_14 => ∀ _j_15 : Nat → Value, K (v_13.1 : Value) w_14) w_18) ((x7_2 : Value), (0 : Int)) w_1))))))

theorem eq_impl_Colouring_degrees (x0 : Value) (c1 : Int) (w : World) (K : Value → World → Prop) :
    W Try.prog ty O_impl_Colouring_degrees_1 (bodyOf Try.f85) (fnPost Try.prog Try.f85.results.toList (.one .any) K) (frame0 [x0, (.int .i64 c1)] 25) w = V_impl_Colouring_degrees x0 c1 w K := by
  kernel_rfl

theorem body_impl_Colouring_degrees : Try.f85.body = some (bodyOf Try.f85) := by kernel_rfl
theorem name_impl_Colouring_degrees : (Try.f85.name == "runtime.NumGoroutine") = false := by kernel_rfl

theorem walk_impl_Colouring_degrees (x0 : Value) (c1 : Int) {w : World} {K : Value → World → Prop} (h : V_impl_Colouring_degrees x0 c1 w K) : Fc Try.prog 85 #[x0, (.int .i64 c1)] w (.one .any) K :=
  fn_ok follows O_impl_Colouring_degrees_1_ok Try.func85 name_impl_Colouring_degrees body_impl_Colouring_degrees Try.ntmps85 [x0, (.int .i64 c1)] (Eq.mpr (eq_impl_Colouring_degrees x0 c1 w K) h)

-- uses S9Bal
theorem c_impl_Colouring_degrees {x : Value} {c : Col} {col : Int} {w : World} {K : Value → World → Prop} (hc : c.Ok) (hx : ColAt w x c) (n0 : 0 ≤ c.n) (n1 : c.n ≤ 17)
    (hK : ∀ v w' b, w.heap.size ≤ b → Below w.heap.size w w' → OwnI w' b v (degL c col) → K v w') : Fc Try.prog F_impl_Colouring_degrees #[x, .int .i64 col] w (.one .any) K := by
  refine walk_impl_Colouring_degrees _ _ (nilI fun b0 v0 w1 e0 q1 o0 => ⟨hx.nonnil, col_n (hx.keep q1) ?_⟩)
  have hgl : ∀ j : Nat, (List.range (j + 1)).map (fun i : Nat => (degN c i col : Int)) = (List.range j).map (fun i : Nat => (degN c i col : Int)) ++ [(degN c j col : Int)] := fun j => by simp [List.range_succ]
  refine lp (fun s w' => Below w.heap.size w w' ∧ ∃ (j b : Nat), s.2 = j ∧ j ≤ c.n.toNat ∧ w.heap.size ≤ b ∧ OwnI w' b s.1 ((List.range j).map fun i : Nat => (degN c i col : Int))) (fun s _ => (17 - s.2).toNat) ⟨q1, 0, b0, rfl, by omega, Nat.le_of_eq e0, o0⟩ ?_
  rintro ⟨v, t⟩ w2 N ⟨q2, j, b, hj, hjn, hb, ho⟩ hN
  simp only at hj ho
  subst hj
  unfold B_impl_Colouring_degrees_3
  dsimp only
  refine ⟨fun h => ?_, fun h => ?_⟩
  · have h := dec_t h
    refine c_impl_Colouring_neighbours hc (hx.keep q2) (by omega) (by omega) n1 fun u w3 b3 hb3 q3 o3 => ?_
    have hl3 := sel_len_le (fun k => joinB c j k col) c.n.toNat
    refine c_impl_sizeS (own_slI o3 (by omega)) ?_
    have q23 := q2.trans (q3.mono q2.size)
    have hs2 := q23.size
    rw [sel_len]
    refine appI (ho.keep q3) (by simp; omega) fun v' w4 b' o4 m4 hb4 => ?_
    have hlt := ho.lt
    have hs3 := q3.size
    rw [wrap_small (by omega) (by omega)]
    refine hN _ _ ⟨q23.trans (m4.below (by omega) (by simp; omega)), j + 1, b', by simp only; omega, by omega, by omega, ?_⟩ (by simp only; omega)
    rw [hgl]
    exact o4
  · have h := dec_f h
    intro _
    have : j = c.n.toNat := by omega
    subst this
    exact hK v w2 b hb q2 ho

end Go.Proofs.Ytdkodhonaoecnaa
