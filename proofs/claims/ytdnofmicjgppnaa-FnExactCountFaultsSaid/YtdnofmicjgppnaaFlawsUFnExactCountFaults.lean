/- The reading of laws_FnExactCountFaults, and its contract. No condition. -/
import Derived.Test.YtdnofmicjgppnaaTy
import Derived.Test.YtdnofmicjgppnaaS2Sl
import Derived.Test.YtdnofmicjgppnaaFimplUCountFaults
import Derived.Test.YtdnofmicjgppnaaFlawsUeqInt64S
import Derived.Test.YtdnofmicjgppnaaFlawsUtoInt64S
import Derived.Test.YtdnofmicjgppnaaFspecUCountFaults
namespace Go.Proofs.Ytdnofmicjgppnaa
open Go Go.RowKit Eng Mem
set_option linter.unusedVariables false
set_option maxRecDepth 100000
def V_laws_FnExactCountFaults (aK0 : Int) (aPart1 : Value) (aKind2 : Int) (w : World) (K : Bool → World → Prop) : Prop :=
  (QAll Try.prog (Builtin.len_ #[22] 3 #[aPart1]) (.int .i64) fun (x13_1 : Int) => (((decide (x13_1 > (1048576 : Int))) = true → K true w) ∧ ((decide (x13_1 > (1048576 : Int))) = false → (Fc Try.prog 15 #[aPart1] w (.one .any) fun (x18_3 : Value) w_2 => (Fc Try.prog 34 #[(.int .i64 aK0), x18_3, (.int .i64 aKind2)] w_2 (.two (.int .i64) (.int .i64)) fun (x20_5 : Int × Int) w_4 => (Fc Try.prog 15 #[aPart1] w_4 (.one .any) fun (x24_7 : Value) w_6 => (Fc Try.prog 35 #[(.int .i64 aK0), x24_7, (.int .i64 aKind2)] w_6 (.two (.int .i64) (.int .i64)) fun (x29_9 : Int × Int) w_8 => (((x29_9.1 != x20_5.1) = true → K false w_8) ∧ ((x29_9.1 != x20_5.1) = false → (((x29_9.2 != x20_5.2) = true → K false w_8) ∧ ((x29_9.2 != x20_5.2) = false → (Fc Try.prog 15 #[aPart1] w_8 (.one .any) fun (x42_11 : Value) w_10 => (Fc Try.prog 17 #[x24_7, x42_11] w_10 (.one .bool) fun (x43_13 : Bool) w_12 => (((!x43_13) = true → K false w_12) ∧ ((!x43_13) = false → K true w_12)))))))))))))))

theorem eq_laws_FnExactCountFaults (aK0 : Int) (aPart1 : Value) (aKind2 : Int) (w : World) (K : Bool → World → Prop) :
    W Try.prog ty (fun _ _ _ _ => False) (bodyOf Try.f10) (fnPost Try.prog Try.f10.results.toList (.one .bool) K) (frame0 [(.int .i64 aK0), aPart1, (.int .i64 aKind2)] 45) w = V_laws_FnExactCountFaults aK0 aPart1 aKind2 w K := by
  kernel_rfl

theorem body_laws_FnExactCountFaults : Try.f10.body = some (bodyOf Try.f10) := by kernel_rfl
theorem name_laws_FnExactCountFaults : (Try.f10.name == "runtime.NumGoroutine") = false := by kernel_rfl

theorem walk_laws_FnExactCountFaults (aK0 : Int) (aPart1 : Value) (aKind2 : Int) {w : World} {K : Bool → World → Prop} (h : V_laws_FnExactCountFaults aK0 aPart1 aKind2 w K) : Fc Try.prog 10 #[(.int .i64 aK0), aPart1, (.int .i64 aKind2)] w (.one .bool) K :=
  fn_ok follows (sound_none _) Try.func10 name_laws_FnExactCountFaults body_laws_FnExactCountFaults Try.ntmps10 [(.int .i64 aK0), aPart1, (.int .i64 aKind2)] (Eq.mpr (eq_laws_FnExactCountFaults aK0 aPart1 aKind2 w K) h)

-- uses S2Sl
theorem c_laws_FnExactCountFaults {n0 : Int} {a1 : Value} {l1 : List Int} {n2 : Int} {w : World} {K : Bool → World → Prop} (h0 : I64 n0) (h1 : SlI w a1 l1 ∧ InI l1) (h2 : I64 n2) (hK : ∀ w', Below w.heap.size w w' → K true w') :
    Fc Try.prog F_laws_FnExactCountFaults #[.int .i64 n0, a1, .int .i64 n2] w (.one .bool) K := by
  refine walk_laws_FnExactCountFaults _ _ _ ?_
  have B := Below.refl w.heap.size w
  refine lenI h1.1 ?_
  refine ⟨fun _ => hK _ B, fun e1 => ?_⟩
  have e1 := dec_f e1
  replace h1 : ArgI _ _ _ := ⟨h1.1, by first | omega | (have := h1.1.len; omega), h1.2⟩
  have h10 := h1
  refine c_laws_toInt64S h1 fun v5 w2 q3 f4 => ?_
  replace h1 := h1.keep q3
  replace B := B.trans (q3.mono B.size)
  have f4_in := h1.ins
  have q3_s := q3.size
  refine c_spec_CountFaults h0 ⟨f4.sl, h1.len, h1.ins⟩ h2 fun w6 q7 => ?_
  replace h1 := h1.keep q7
  replace f4 := f4.keep q7
  replace B := B.trans (q7.mono B.size)
  have q7_s := q7.size
  refine c_laws_toInt64S h1 fun v12 w9 q10 f11 => ?_
  replace h1 := h1.keep q10
  replace f4 := f4.keep q10
  replace B := B.trans (q10.mono B.size)
  have f11_in := h1.ins
  have q10_s := q10.size
  refine c_impl_CountFaults h0 ⟨f11.sl, h1.len, h1.ins⟩ h2 fun w13 q14 => ?_
  replace h1 := h1.keep q14
  replace f4 := f4.keep q14
  replace f11 := f11.keep q14
  replace B := B.trans (q14.mono B.size)
  have q14_s := q14.size
  refine ⟨fun e16 => absurd rfl (ne_t e16), fun _ => ?_⟩
  refine ⟨fun e17 => absurd rfl (ne_t e17), fun _ => ?_⟩
  refine c_laws_toInt64S h1 fun v21 w18 q19 f20 => ?_
  replace h1 := h1.keep q19
  replace f4 := f4.keep q19
  replace f11 := f11.keep q19
  replace B := B.trans (q19.mono B.size)
  have f20_in := h1.ins
  have q19_s := q19.size
  refine c_laws_eqInt64S f11.sl f20.sl fun w22 q23 => ?_
  replace h1 := h1.keep q23
  replace f4 := f4.keep q23
  replace f11 := f11.keep q23
  replace f20 := f20.keep q23
  replace B := B.trans (q23.mono B.size)
  have q23_s := q23.size
  refine ⟨fun e25 => absurd rfl (notd_t e25), fun _ => ?_⟩
  exact hK _ B

end Go.Proofs.Ytdnofmicjgppnaa
