/- The reading of impl_Colouring_degreesAt, and its contract. No condition. -/
import Derived.Test.YtkadckhealbdaaaTy
import Derived.Test.YtkadckhealbdaaaS9IsoM
import Derived.Test.YtkadckhealbdaaaFimplUColouringUat
namespace Go.Proofs.Ytkadckhealbdaaa
open Go Go.RowKit Eng Mem
set_option linter.unusedVariables false
set_option maxRecDepth 100000
def B_impl_Colouring_degreesAt_3 (x0 : Value) (i1 : Int) (out5 : Value) (x15 : Int) (x16 : Int) (N : (Value × Int × Value × Int) → Int → World → Prop) (D0 : (Value × Unit) → World → Prop) (w : World) : Prop :=
  (((decide (x16 < x15)) = true → (((x16 != i1) = true → (Fc Try.prog 89 #[x0, (.int .i64 i1), (.int .i64 x16)] w (.one (.int .i64)) fun (x26_8 : Int) w_7 => (QAll Try.prog (Instr.indexAt 31 out5 (.int .i64 x26_8)) .any fun (x27_9 : Value) => (QSub Try.prog (Instr.loadAt 2 x27_9) w_7 (.int .i64) fun (x28_10 : Int) => (QAll Try.prog (Instr.indexAt 31 out5 (.int .i64 x26_8)) .any fun (x30_11 : Value) => (PrU Try.prog (Instr.storeAt 2 x30_11 (.int .i64 (IntKind.i64.wrap (x28_10 + (1 : Int))))) w_7 fun w_12 => N ((x0 : Value), i1, (out5 : Value), x15) (IntKind.i64.wrap (x16 + (1 : Int))) w_12)))))) ∧ ((x16 != i1) = false → N ((x0 : Value), i1, (out5 : Value), x15) (IntKind.i64.wrap (x16 + (1 : Int))) w))) ∧ ((decide (x16 < x15)) = false → D0 ((out5 : Value), ()) w))

abbrev L_impl_Colouring_degreesAt_3_e0 : List Slot := [.junk, .junk, .junk, .junk, .junk, .k .any, .junk, .junk, .junk, .junk, .junk, .junk, .junk, .junk, .junk, .junk, .junk, .junk, .junk, .junk, .junk, .junk, .junk, .junk, .junk, .junk, .junk, .junk, .junk, .junk, .junk, .junk, .junk]

abbrev L_impl_Colouring_degreesAt_3_sp : List Slot := [.k .any, .k (.int .i64), .junk, .junk, .junk, .k .any, .junk, .junk, .junk, .junk, .junk, .junk, .junk, .junk, .junk, .k (.int .i64), .k (.int .i64), .junk, .junk, .junk, .junk, .junk, .junk, .junk, .junk, .junk, .junk, .junk, .junk, .junk, .junk, .junk, .junk]
abbrev L_impl_Colouring_degreesAt_3_ex : List (Nat × List Slot) := [(0, L_impl_Colouring_degreesAt_3_e0)]
abbrev L_impl_Colouring_degreesAt_3_rt : List Slot := [.junk, .junk, .junk, .junk, .junk, .junk, .junk, .junk, .junk, .junk, .junk, .junk, .junk, .junk, .junk, .junk, .junk, .junk, .junk, .junk, .junk, .junk, .junk, .junk, .junk, .junk, .junk, .junk, .junk, .junk, .junk, .junk, .junk]

def L_impl_Colouring_degreesAt_3_b (Φ : Post) (u : (Value × Int × Value × Int)) (N : (Value × Int × Value × Int) → Int → World → Prop) (s : Int) (w : World) : Prop :=
  B_impl_Colouring_degreesAt_3 u.1 u.2.1 u.2.2.1 u.2.2.2 s N (fun v w => ∀ j : Nat → Value, Φ (.exit 0) (mkT j 0 L_impl_Colouring_degreesAt_3_e0 v) w) w

theorem L_impl_Colouring_degreesAt_3_eq (j : Nat → Value) (u : (Value × Int × Value × Int)) (s : Int) (N : (Value × Int × Value × Int) → Int → World → Prop) (D0 : (Value × Unit) → World → Prop) (R : (Unit) → World → Prop) (w : World) :
    W Try.prog ty (fun _ _ _ _ => False) (loopAt Try.f134 3) (loopPost L_impl_Colouring_degreesAt_3_sp [(0, (⟨L_impl_Colouring_degreesAt_3_e0, D0⟩ : Door))] ⟨L_impl_Colouring_degreesAt_3_rt, R⟩ (fun v w => N ((fun v => (v.1, v.2.1, v.2.2.1, v.2.2.2.1)) v) ((fun v => v.2.2.2.2.1) v) w)) (mkT j 0 L_impl_Colouring_degreesAt_3_sp ((fun u s => (u.1, u.2.1, u.2.2.1, u.2.2.2, s, ())) u s)) w =
    B_impl_Colouring_degreesAt_3 u.1 u.2.1 u.2.2.1 u.2.2.2 s N D0 w := by
  kernel_rfl

def O_impl_Colouring_degreesAt_1 : Code → Post → List SV → World → Prop :=
  orc 3 (loopAt Try.f134 3) L_impl_Colouring_degreesAt_3_sp (fun Φ fr w => LOOP (U := (Value × Int × Value × Int)) (S := Int) ((fun v => (v.1, v.2.1, v.2.2.1, v.2.2.2.1)) (extT L_impl_Colouring_degreesAt_3_sp fr)) (L_impl_Colouring_degreesAt_3_b Φ ((fun v => (v.1, v.2.1, v.2.2.1, v.2.2.2.1)) (extT L_impl_Colouring_degreesAt_3_sp fr))) ((fun v => v.2.2.2.2.1) (extT L_impl_Colouring_degreesAt_3_sp fr)) w) (fun _ _ _ _ => False)

theorem O_impl_Colouring_degreesAt_1_ok : Sound Try.prog O_impl_Colouring_degreesAt_1 :=
  orc_ok (sound_none _) fun Φ fr w hs h => loop_ok (ty := ty) follows (sound_none _) L_impl_Colouring_degreesAt_3_sp (fun v => (v.1, v.2.1, v.2.2.1, v.2.2.2.1)) (fun v => v.2.2.2.2.1) (fun u s => (u.1, u.2.1, u.2.2.1, u.2.2.2, s, ())) (fun _ => rfl) L_impl_Colouring_degreesAt_3_ex L_impl_Colouring_degreesAt_3_rt (body := L_impl_Colouring_degreesAt_3_b Φ) (fun j u s w N hb => by
    have e := L_impl_Colouring_degreesAt_3_eq j u s N (doorOf Φ (.exit 0) L_impl_Colouring_degreesAt_3_e0).D (doorOf Φ .ret L_impl_Colouring_degreesAt_3_rt).D w
    exact Eq.mpr e hb) hs h

def V_impl_Colouring_degreesAt (x0 : Value) (i1 : Int) (w : World) (K : Value → World → Prop) : Prop :=
  (NilOk x0 ∧ (QAll Try.prog (Instr.fieldAt 25 x0 1) .any fun (x9_1 : Value) => (QSub Try.prog (Instr.loadAt 2 x9_1) w (.int .i64) fun (x10_2 : Int) => (Pr Try.prog (Instr.makeSlice 31 (.int .i64 x10_2) (.int .i64 x10_2)) w (.one .any) fun (x11_4 : Value) w_3 => (NilOk x0 ∧ (QAll Try.prog (Instr.fieldAt 25 x0 0) .any fun (x14_5 : Value) => (QSub Try.prog (Instr.loadAt 2 x14_5) w_3 (.int .i64) fun (x15_6 : Int) => (At (loopAt Try.f134 3) (loopAt Try.f134 3) (LOOP (U := (Value × Int × Value × Int)) (S := Int) ((x0 : Value), i1, (x11_4 : Value), x15_6) (fun N_17 s_18 w_19 => B_impl_Colouring_degreesAt_3 (x0 : Value) i1 (x11_4 : Value) x15_6 s_18 N_17 (fun (v_14 : (Value × Unit)) w_15 => ∀ _j_16 : Nat → Value, K (v_14.1 : Value) w_15) w_19) (0 : Int) w_3)))))))))

theorem eq_impl_Colouring_degreesAt (x0 : Value) (i1 : Int) (w : World) (K : Value → World → Prop) :
    W Try.prog ty O_impl_Colouring_degreesAt_1 (bodyOf Try.f134) (fnPost Try.prog Try.f134.results.toList (.one .any) K) (frame0 [x0, (.int .i64 i1)] 33) w = V_impl_Colouring_degreesAt x0 i1 w K := by
  kernel_rfl

theorem body_impl_Colouring_degreesAt : Try.f134.body = some (bodyOf Try.f134) := by kernel_rfl
theorem name_impl_Colouring_degreesAt : (Try.f134.name == "runtime.NumGoroutine") = false := by kernel_rfl

theorem walk_impl_Colouring_degreesAt (x0 : Value) (i1 : Int) {w : World} {K : Value → World → Prop} (h : V_impl_Colouring_degreesAt x0 i1 w K) : Fc Try.prog 134 #[x0, (.int .i64 i1)] w (.one .any) K :=
  fn_ok follows O_impl_Colouring_degreesAt_1_ok Try.func134 name_impl_Colouring_degreesAt body_impl_Colouring_degreesAt Try.ntmps134 [x0, (.int .i64 i1)] (Eq.mpr (eq_impl_Colouring_degreesAt x0 i1 w K) h)

-- uses S9IsoM
theorem c_impl_Colouring_degreesAt {p : Value} {x : Col} {i : Int} {w : World} {K : Value → World → Prop} (hx : x.Ok) (hI : x.Is) (ax : ColAt w p x) (i0 : 0 ≤ i) (i1 : i < x.n)
    (hK : ∀ v w' b, w.heap.size ≤ b → Below w.heap.size w w' → OwnI w' b v (degK x i x.n.toNat) → K v w') : Fc Try.prog F_impl_Colouring_degreesAt #[p, .int .i64 i] w (.one .any) K := by
  have n0 := hI.1; have n1 := hI.2.1; have k0 := hI.2.2.1; have k4 := hI.2.2.2.1
  refine walk_impl_Colouring_degreesAt _ _ ⟨ax.nonnil, col_k ax (mkI (by omega) (by omega) fun b v w1 m1 o1 => ⟨ax.nonnil, col_n (ax.keep m1.below) ?_⟩)⟩
  have q1 := m1.below
  have e1 := m1.here
  have h0 : degK x i 0 = List.replicate x.k.toNat 0 := by
    unfold degK
    apply List.ext_getElem
    · simp
    · intro a h1 h2; rw [List.getElem_replicate]; simp [degP]
  refine lp (fun s w' => Below w.heap.size w w' ∧ ∃ j : Nat, s = j ∧ j ≤ x.n.toNat ∧ OwnI w' b v (degK x i j)) (fun s _ => (17 - s).toNat) ⟨q1, 0, rfl, by omega, by rw [h0]; exact o1⟩ ?_
  rintro t w2 N ⟨q2, j, hj, hjn, ho⟩ hN
  subst hj
  unfold B_impl_Colouring_degreesAt_3
  refine ⟨fun hlt => ?_, fun hge => ?_⟩
  · have hlt := dec_t hlt
    refine ⟨fun hne => ?_, fun he => ?_⟩
    · have hne := ne_t hne
      refine c_impl_Colouring_at hx (ax.keep q2) i0 (by omega) (by omega) (by omega) (Ne.symm hne) fun w3 q3 => ?_
      have hnum := num_lt i0 i1 (show (0 : Int) ≤ j by omega) hlt n1 (Ne.symm hne)
      have hed := edges_bd (n := x.n) (by omega) n1
      have hlt' := hI.2.2.2.2 (num i j).toNat (by omega)
      rw [if_pos (by omega)] at hlt'
      have hbd := hx.e_bd (num i j).toNat
      have o3 := ho.keep q3
      have hlen := degK_len x i j
      have hdp := degP_le x i (x.e (num i j).toNat) j
      have hget := degK_get x i j (c := (x.e (num i j).toNat).toNat) (by omega)
      rw [Int.toNat_of_nonneg hbd.1] at hget
      have hset := degK_set (x := x) (i := i) (j := j) (Ne.symm hne) hbd.1 hlt'
      unfold colAt at hset
      refine atI (own_slI o3 (by omega)) hbd.1 (by omega) ?_
      have q23 := q2.trans (q3.mono q2.size)
      rw [hget, wrap_small (by omega) (by omega)]
      refine putI o3 hbd.1 (by omega) fun w4 m4 s4 o4 => ?_
      rw [wrap_small (by omega) (by omega)]
      rw [hget] at hset
      rw [hset] at o4
      have hs := q23.size
      exact hN _ _ ⟨q23.trans (m4.below (by omega) (by simp; omega)), j + 1, by omega, by omega, o4⟩ (by omega)
    · have he := ne_f he
      rw [wrap_small (by omega) (by omega)]
      refine hN _ _ ⟨q2, j + 1, by omega, by omega, ?_⟩ (by omega)
      rw [degK_same he.symm]
      exact ho
  · have hge := dec_f hge
    have : j = x.n.toNat := by omega
    subst this
    intro _
    exact hK v w2 b (by omega) q2 ho

end Go.Proofs.Ytkadckhealbdaaa
