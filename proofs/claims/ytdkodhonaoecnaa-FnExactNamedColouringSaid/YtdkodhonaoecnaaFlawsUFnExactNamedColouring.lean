/- The reading of laws_FnExactNamedColouring, and its contract. No condition. -/
import Derived.Test.YtdkodhonaoecnaaTy
import Derived.Test.YtdkodhonaoecnaaS2Sl
import Derived.Test.YtdkodhonaoecnaaS9Law
import Derived.Test.YtdkodhonaoecnaaFimplUNamedColouring
import Derived.Test.YtdkodhonaoecnaaFlawsUeqColouring
import Derived.Test.YtdkodhonaoecnaaFspecUNamedColouring
namespace Go.Proofs.Ytdkodhonaoecnaa
open Go Go.RowKit Eng Mem
set_option linter.unusedVariables false
set_option maxRecDepth 100000
def V_laws_FnExactNamedColouring (aName0 : ByteArray) (w : World) (K : Bool → World → Prop) : Prop :=
  (QAll Try.prog (Builtin.len_ #[9] 3 #[(.string aName0)]) (.int .i64) fun (x8_1 : Int) => (((decide (x8_1 > (1048576 : Int))) = true → K true w) ∧ ((decide (x8_1 > (1048576 : Int))) = false → (Fc Try.prog 29 #[(.string aName0)] w (.two .any (.int .i64)) fun (x12_3 : Value × Int) w_2 => (Pr Try.prog (Instr.alloc 28 true (.tuple #[])) w_2 (.one .any) fun (w03_5 : Value) w_4 => (PrU Try.prog (Instr.storeAt 28 w03_5 x12_3.1) w_4 fun w_6 => (Fc Try.prog 30 #[(.string aName0)] w_6 (.two .any (.int .i64)) fun (x17_9 : Value × Int) w_8 => (Pr Try.prog (Instr.alloc 28 true (.tuple #[])) w_8 (.one .any) fun (g05_11 : Value) w_10 => (PrU Try.prog (Instr.storeAt 28 g05_11 x17_9.1) w_10 fun w_12 => (QSub Try.prog (Instr.loadAt 28 g05_11) w_12 .any fun (x20_14 : Value) => (QSub Try.prog (Instr.loadAt 28 w03_5) w_12 .any fun (x21_15 : Value) => (Fc Try.prog 20 #[x20_14, x21_15] w_12 (.one .bool) fun (x22_17 : Bool) w_16 => (((!x22_17) = true → K false w_16) ∧ ((!x22_17) = false → (((x17_9.2 != x12_3.2) = true → K false w_16) ∧ ((x17_9.2 != x12_3.2) = false → K true w_16))))))))))))))))

theorem eq_laws_FnExactNamedColouring (aName0 : ByteArray) (w : World) (K : Bool → World → Prop) :
    W Try.prog ty (fun _ _ _ _ => False) (bodyOf Try.f8) (fnPost Try.prog Try.f8.results.toList (.one .bool) K) (frame0 [(.string aName0)] 29) w = V_laws_FnExactNamedColouring aName0 w K := by
  kernel_rfl

theorem body_laws_FnExactNamedColouring : Try.f8.body = some (bodyOf Try.f8) := by kernel_rfl
theorem name_laws_FnExactNamedColouring : (Try.f8.name == "runtime.NumGoroutine") = false := by kernel_rfl

theorem walk_laws_FnExactNamedColouring (aName0 : ByteArray) {w : World} {K : Bool → World → Prop} (h : V_laws_FnExactNamedColouring aName0 w K) : Fc Try.prog 8 #[(.string aName0)] w (.one .bool) K :=
  fn_ok follows (sound_none _) Try.func8 name_laws_FnExactNamedColouring body_laws_FnExactNamedColouring Try.ntmps8 [(.string aName0)] (Eq.mpr (eq_laws_FnExactNamedColouring aName0 w K) h)

-- uses S2Sl
-- uses S9Law
theorem c_laws_FnExactNamedColouring {n0 : ByteArray} {w : World} {K : Bool → World → Prop} (h0 : n0.size ≤ maxLen) (hK : ∀ w', Below w.heap.size w w' → K true w') :
    Fc Try.prog F_laws_FnExactNamedColouring #[.string n0] w (.one .bool) K := by
  refine walk_laws_FnExactNamedColouring _ ?_
  have B := Below.refl w.heap.size w
  refine lenS ?_
  refine ⟨fun _ => hK _ B, fun e1 => ?_⟩
  have e1 := dec_f e1
  refine c_spec_NamedColouring h0 fun w2 q3 o5 => ?_
  replace B := B.trans (q3.mono B.size)
  have q3_s := q3.size
  refine col_var o5 fun b9 w6 b9_l b9_h q7 f8 => ?_
  replace B := B.trans (q7.mono B.size)
  have q7_s := q7.size
  refine c_impl_NamedColouring h0 fun w10 q11 o13 => ?_
  replace f8 := f8.keep q11
  replace B := B.trans (q11.mono B.size)
  have q11_s := q11.size
  refine col_var o13 fun b17 w14 b17_l b17_h q15 f16 => ?_
  replace f8 := f8.keep q15
  replace B := B.trans (q15.mono B.size)
  have q15_s := q15.size
  refine col_all o13 f16 ?_
  refine col_all o5 f8 ?_
  refine c_laws_eqColouring o13 o5 fun w18 q19 => ?_
  replace f8 := f8.keep q19
  replace f16 := f16.keep q19
  replace B := B.trans (q19.mono B.size)
  have q19_s := q19.size
  refine ⟨fun e21 => absurd rfl (notd_t e21), fun _ => ?_⟩
  refine ⟨fun e22 => absurd rfl (ne_t e22), fun _ => ?_⟩
  exact hK _ B

end Go.Proofs.Ytdkodhonaoecnaa
