/- The reading of laws_FnExactIsFree, and its contract. No condition. -/
import Derived.Test.YtdnofmicjgppnaaTy
import Derived.Test.YtdnofmicjgppnaaS2Sl
import Derived.Test.YtdnofmicjgppnaaFimplUIsFree
import Derived.Test.YtdnofmicjgppnaaFlawsUeqInt64S
import Derived.Test.YtdnofmicjgppnaaFlawsUtoInt64S
import Derived.Test.YtdnofmicjgppnaaFspecUIsFree
namespace Go.Proofs.Ytdnofmicjgppnaa
open Go Go.RowKit Eng Mem
set_option linter.unusedVariables false
set_option maxRecDepth 100000
def V_laws_FnExactIsFree (aK0 : Int) (aPart1 : Value) (aKind2 : Int) (w : World) (K : Bool → World → Prop) : Prop :=
  (QAll Try.prog (Builtin.len_ #[22] 3 #[aPart1]) (.int .i64) fun (x13_1 : Int) => (((decide (x13_1 > (1048576 : Int))) = true → K true w) ∧ ((decide (x13_1 > (1048576 : Int))) = false → (Fc Try.prog 15 #[aPart1] w (.one .any) fun (x18_3 : Value) w_2 => (Fc Try.prog 36 #[(.int .i64 aK0), x18_3, (.int .i64 aKind2)] w_2 (.two .bool (.int .i64)) fun (x20_5 : Bool × Int) w_4 => (Fc Try.prog 15 #[aPart1] w_4 (.one .any) fun (x24_7 : Value) w_6 => (Fc Try.prog 37 #[(.int .i64 aK0), x24_7, (.int .i64 aKind2)] w_6 (.two .bool (.int .i64)) fun (x29_9 : Bool × Int) w_8 => (QAll Try.prog (do eqGuard .neq 4 (.tmp 32) (.tmp 33) (.bool x29_9.1) (.bool x20_5.1); binOp .neq 4 (.bool x29_9.1) (.bool x20_5.1)) .bool fun (x34_10 : Bool) => ((x34_10 = true → K false w_8) ∧ (x34_10 = false → (((x29_9.2 != x20_5.2) = true → K false w_8) ∧ ((x29_9.2 != x20_5.2) = false → (Fc Try.prog 15 #[aPart1] w_8 (.one .any) fun (x42_12 : Value) w_11 => (Fc Try.prog 17 #[x24_7, x42_12] w_11 (.one .bool) fun (x43_14 : Bool) w_13 => (((!x43_14) = true → K false w_13) ∧ ((!x43_14) = false → K true w_13))))))))))))))))

theorem eq_laws_FnExactIsFree (aK0 : Int) (aPart1 : Value) (aKind2 : Int) (w : World) (K : Bool → World → Prop) :
    W Try.prog ty (fun _ _ _ _ => False) (bodyOf Try.f11) (fnPost Try.prog Try.f11.results.toList (.one .bool) K) (frame0 [(.int .i64 aK0), aPart1, (.int .i64 aKind2)] 45) w = V_laws_FnExactIsFree aK0 aPart1 aKind2 w K := by
  kernel_rfl

theorem body_laws_FnExactIsFree : Try.f11.body = some (bodyOf Try.f11) := by kernel_rfl
theorem name_laws_FnExactIsFree : (Try.f11.name == "runtime.NumGoroutine") = false := by kernel_rfl

theorem walk_laws_FnExactIsFree (aK0 : Int) (aPart1 : Value) (aKind2 : Int) {w : World} {K : Bool → World → Prop} (h : V_laws_FnExactIsFree aK0 aPart1 aKind2 w K) : Fc Try.prog 11 #[(.int .i64 aK0), aPart1, (.int .i64 aKind2)] w (.one .bool) K :=
  fn_ok follows (sound_none _) Try.func11 name_laws_FnExactIsFree body_laws_FnExactIsFree Try.ntmps11 [(.int .i64 aK0), aPart1, (.int .i64 aKind2)] (Eq.mpr (eq_laws_FnExactIsFree aK0 aPart1 aKind2 w K) h)

-- uses S2Sl
theorem c_laws_FnExactIsFree {n0 : Int} {a1 : Value} {l1 : List Int} {n2 : Int} {w : World} {K : Bool → World → Prop} (h0 : I64 n0) (h1 : SlI w a1 l1 ∧ InI l1) (h2 : I64 n2) (hK : ∀ w', Below w.heap.size w w' → K true w') :
    Fc Try.prog F_laws_FnExactIsFree #[.int .i64 n0, a1, .int .i64 n2] w (.one .bool) K := by
  refine walk_laws_FnExactIsFree _ _ _ ?_
  have B := Below.refl w.heap.size w
  refine lenI h1.1 ?_
  refine ⟨fun _ => hK _ B, fun e1 => ?_⟩
  have e1 := dec_f e1
  replace h1 : ArgI _ _ _ := ⟨h1.1, by first | omega | (have := h1.1.len; omega), h1.2⟩
  have h10 := h1
  refine c_laws_toInt64S h1 fun v5 w2 q3 f4 => ?_
  replace h1 := h1.keep q3
  replace B := B.trans (q3.mono B.size)
  have f4_in := h1.ins
  have q3_s := q3.size
  refine c_spec_IsFree h0 ⟨f4.sl, h1.len, h1.ins⟩ h2 fun w6 q7 => ?_
  replace h1 := h1.keep q7
  replace f4 := f4.keep q7
  replace B := B.trans (q7.mono B.size)
  have q7_s := q7.size
  refine c_laws_toInt64S h1 fun v12 w9 q10 f11 => ?_
  replace h1 := h1.keep q10
  replace f4 := f4.keep q10
  replace B := B.trans (q10.mono B.size)
  have f11_in := h1.ins
  have q10_s := q10.size
  refine c_impl_IsFree h0 ⟨f11.sl, h1.len, h1.ins⟩ h2 fun w13 q14 => ?_
  replace h1 := h1.keep q14
  replace f4 := f4.keep q14
  replace f11 := f11.keep q14
  replace B := B.trans (q14.mono B.size)
  have q14_s := q14.size
  refine neqB Try.underlyingTb ?_
  refine ⟨fun e16 => absurd e16 (by simp), fun _ => ?_⟩
  refine ⟨fun e17 => absurd rfl (ne_t e17), fun _ => ?_⟩
  refine c_laws_toInt64S h1 fun v21 w18 q19 f20 => ?_
  replace h1 := h1.keep q19
  replace f4 := f4.keep q19
  replace f11 := f11.keep q19
  replace B := B.trans (q19.mono B.size)
  have f20_in := h1.ins
  have q19_s := q19.size
  refine c_laws_eqInt64S f11.sl f20.sl fun w22 q23 => ?_
  replace h1 := h1.keep q23
  replace f4 := f4.keep q23
  replace f11 := f11.keep q23
  replace f20 := f20.keep q23
  replace B := B.trans (q23.mono B.size)
  have q23_s := q23.size
  refine ⟨fun e25 => absurd rfl (notd_t e25), fun _ => ?_⟩
  exact hK _ B

end Go.Proofs.Ytdnofmicjgppnaa
