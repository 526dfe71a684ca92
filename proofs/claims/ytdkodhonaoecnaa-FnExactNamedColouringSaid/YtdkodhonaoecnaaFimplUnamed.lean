/- The reading of impl_named, and its contract. No condition. -/
import Derived.Test.YtdkodhonaoecnaaTy
import Derived.Test.YtdkodhonaoecnaaS9Nam
import Derived.Test.YtdkodhonaoecnaaFimplUbyDifference
import Derived.Test.YtdkodhonaoecnaaFimplUmade
import Derived.Test.YtdkodhonaoecnaaFimplUnamedU1
namespace Go.Proofs.Ytdkodhonaoecnaa
open Go Go.RowKit Eng Mem
set_option linter.unusedVariables false
set_option maxRecDepth 100000
def V_impl_named (name0 : ByteArray) (w : World) (K : (Value × Bool) → World → Prop) : Prop :=
  (Pr Try.prog (Instr.alloc 28 true (.tuple #[])) w (.one .any) fun (x2_2 : Value) w_1 => (QAll Try.prog (do eqGuard .eql 9 (.tmp 4) (.const (.string (⟨#[112, 101, 110, 116, 97, 103, 111, 110]⟩))) (.string name0) (.string (⟨#[112, 101, 110, 116, 97, 103, 111, 110]⟩)); binOp .eql 9 (.string name0) (.string (⟨#[112, 101, 110, 116, 97, 103, 111, 110]⟩))) .bool fun (x6_3 : Bool) => ((x6_3 = true → (Pr Try.prog (Instr.buildSlice 25 1 #[(0, (.int .i64 (1 : Int)))]) w_1 (.one .any) fun (x7_5 : Value) w_4 => (Fc Try.prog 114 #[(.int .i64 (5 : Int)), x7_5] w_4 (.one .any) fun (x8_7 : Value) w_6 => (PrU Try.prog (Instr.storeAt 28 x2_2 x8_7) w_6 fun w_8 => (QSub Try.prog (Instr.loadAt 28 x2_2) w_8 .any fun (r_10 : Value) => K ((r_10 : Value), true) w_8))))) ∧ (x6_3 = false → (QAll Try.prog (do eqGuard .eql 9 (.tmp 4) (.const (.string (⟨#[101, 105, 103, 104, 116]⟩))) (.string name0) (.string (⟨#[101, 105, 103, 104, 116]⟩)); binOp .eql 9 (.string name0) (.string (⟨#[101, 105, 103, 104, 116]⟩))) .bool fun (x10_11 : Bool) => ((x10_11 = true → (Pr Try.prog (Instr.buildSlice 25 2 #[(0, (.int .i64 (1 : Int))), (1, (.int .i64 (4 : Int)))]) w_1 (.one .any) fun (x11_13 : Value) w_12 => (Fc Try.prog 114 #[(.int .i64 (8 : Int)), x11_13] w_12 (.one .any) fun (x12_15 : Value) w_14 => (PrU Try.prog (Instr.storeAt 28 x2_2 x12_15) w_14 fun w_16 => (QSub Try.prog (Instr.loadAt 28 x2_2) w_16 .any fun (r_18 : Value) => K ((r_18 : Value), true) w_16))))) ∧ (x10_11 = false → (QAll Try.prog (do eqGuard .eql 9 (.tmp 4) (.const (.string (⟨#[116, 104, 105, 114, 116, 101, 101, 110]⟩))) (.string name0) (.string (⟨#[116, 104, 105, 114, 116, 101, 101, 110]⟩)); binOp .eql 9 (.string name0) (.string (⟨#[116, 104, 105, 114, 116, 101, 101, 110]⟩))) .bool fun (x14_19 : Bool) => ((x14_19 = true → (Pr Try.prog (Instr.buildSlice 25 2 #[(0, (.int .i64 (1 : Int))), (1, (.int .i64 (5 : Int)))]) w_1 (.one .any) fun (x15_21 : Value) w_20 => (Fc Try.prog 114 #[(.int .i64 (13 : Int)), x15_21] w_20 (.one .any) fun (x16_23 : Value) w_22 => (PrU Try.prog (Instr.storeAt 28 x2_2 x16_23) w_22 fun w_24 => (QSub Try.prog (Instr.loadAt 28 x2_2) w_24 .any fun (r_26 : Value) => K ((r_26 : Value), true) w_24))))) ∧ (x14_19 = false → (QAll Try.prog (do eqGuard .eql 9 (.tmp 4) (.const (.string (⟨#[115, 101, 118, 101, 110, 116, 101, 101, 110]⟩))) (.string name0) (.string (⟨#[115, 101, 118, 101, 110, 116, 101, 101, 110]⟩)); binOp .eql 9 (.string name0) (.string (⟨#[115, 101, 118, 101, 110, 116, 101, 101, 110]⟩))) .bool fun (x18_27 : Bool) => ((x18_27 = true → (Pr Try.prog (Instr.buildSlice 25 4 #[(0, (.int .i64 (1 : Int))), (1, (.int .i64 (2 : Int))), (2, (.int .i64 (4 : Int))), (3, (.int .i64 (8 : Int)))]) w_1 (.one .any) fun (x19_29 : Value) w_28 => (Fc Try.prog 114 #[(.int .i64 (17 : Int)), x19_29] w_28 (.one .any) fun (x20_31 : Value) w_30 => (PrU Try.prog (Instr.storeAt 28 x2_2 x20_31) w_30 fun w_32 => (QSub Try.prog (Instr.loadAt 28 x2_2) w_32 .any fun (r_34 : Value) => K ((r_34 : Value), true) w_32))))) ∧ (x18_27 = false → (QAll Try.prog (do eqGuard .eql 9 (.tmp 4) (.const (.string (⟨#[115, 105, 120, 116, 101, 101, 110]⟩))) (.string name0) (.string (⟨#[115, 105, 120, 116, 101, 101, 110]⟩)); binOp .eql 9 (.string name0) (.string (⟨#[115, 105, 120, 116, 101, 101, 110]⟩))) .bool fun (x22_35 : Bool) => ((x22_35 = true → (Fc Try.prog 105 #[(.int .i64 (16 : Int)), (.int .i64 (3 : Int)), (.func (.func 115) #[] #[])] w_1 (.one .any) fun (x23_37 : Value) w_36 => (PrU Try.prog (Instr.storeAt 28 x2_2 x23_37) w_36 fun w_38 => (QSub Try.prog (Instr.loadAt 28 x2_2) w_38 .any fun (r_40 : Value) => K ((r_40 : Value), true) w_38)))) ∧ (x22_35 = false → (Pr Try.prog (Instr.build 28 #[]) w_1 (.one .any) fun (x24_42 : Value) w_41 => (PrU Try.prog (Instr.storeAt 28 x2_2 x24_42) w_41 fun w_43 => (QSub Try.prog (Instr.loadAt 28 x2_2) w_43 .any fun (r_45 : Value) => K ((r_45 : Value), false) w_43)))))))))))))))))))

theorem eq_impl_named (name0 : ByteArray) (w : World) (K : (Value × Bool) → World → Prop) :
    W Try.prog ty (fun _ _ _ _ => False) (bodyOf Try.f78) (fnPost Try.prog Try.f78.results.toList (.two .any .bool) K) (frame0 [(.string name0)] 25) w = V_impl_named name0 w K := by
  kernel_rfl

theorem body_impl_named : Try.f78.body = some (bodyOf Try.f78) := by kernel_rfl
theorem name_impl_named : (Try.f78.name == "runtime.NumGoroutine") = false := by kernel_rfl

theorem walk_impl_named (name0 : ByteArray) {w : World} {K : (Value × Bool) → World → Prop} (h : V_impl_named name0 w K) : Fc Try.prog 78 #[(.string name0)] w (.two .any .bool) K :=
  fn_ok follows (sound_none _) Try.func78 name_impl_named body_impl_named Try.ntmps78 [(.string name0)] (Eq.mpr (eq_impl_named name0 w K) h)

-- uses S9Nam
theorem c_impl_named {s : ByteArray} {w : World} {K : Value × Bool → World → Prop} (hK : ∀ w', Below w.heap.size w w' → K ((namedC s).1.val, (namedC s).2) w') :
    Fc Try.prog F_impl_named #[.string s] w (.two .any .bool) K := by
  unfold namedC at hK
  refine walk_impl_named _ (c_alloc fun r w1 q1 hv => ?_)
  have hs1 := q1.size
  have diff : ∀ {n : Int} {l : List Int}, 1 ≤ n → n ≤ 17 → (∀ w', Below w.heap.size w w' → K ((colG n 2 (diffG l n)).val, true) w') →
      ∀ v w2, Below w1.heap.size w1 w2 → SlI w2 v l → Fc Try.prog F_impl_byDifference #[.int .i64 n, v] w2 (.one .any) fun x w6 => PrU Try.prog (Instr.storeAt tC r x) w6 fun w8 => QSub Try.prog (Instr.loadAt tC r) w8 .any fun y => K (y, true) w8 := fun {n l} n0 n1 hk v w2 q2 h2 => by
    refine c_impl_byDifference h2 (by omega) n1 fun w3 q3 => ?_
    have hs2 := q2.size; have hs3 := q3.size
    exact c_ret (K := fun y w' => K (y, true) w') (diff_ok _ (by omega) n1) ((hv.keep q2).keep q3) (by omega) fun w4 q4 => hk w4 ((q1.trans ((q2.trans (q3.mono hs2)).mono hs1)).trans q4)
  refine eqStr ⟨fun h => ?_, fun h => eqStr ⟨fun h2 => ?_, fun h2 => eqStr ⟨fun h3 => ?_, fun h3 => eqStr ⟨fun h4 => ?_, fun h4 => eqStr ⟨fun h5 => ?_, fun h5 => ?_⟩⟩⟩⟩⟩
  · rw [if_pos h] at hK
    exact litI' [1] rfl rfl (by omega) fun v w2 q2 h2 => diff (by omega) (by omega) hK v w2 q2 h2
  · rw [if_neg (ff h), if_pos h2] at hK
    exact litI' [1, 4] rfl rfl (by omega) fun v w2 q2 h2 => diff (by omega) (by omega) hK v w2 q2 h2
  · rw [if_neg (ff h), if_neg (ff h2), if_pos h3] at hK
    exact litI' [1, 5] rfl rfl (by omega) fun v w2 q2 h2 => diff (by omega) (by omega) hK v w2 q2 h2
  · rw [if_neg (ff h), if_neg (ff h2), if_neg (ff h3), if_pos h4] at hK
    exact litI' [1, 2, 4, 8] rfl rfl (by omega) fun v w2 q2 h2 => diff (by omega) (by omega) hK v w2 q2 h2
  · rw [if_neg (ff h), if_neg (ff h2), if_neg (ff h3), if_neg (ff h4), if_pos h5] at hK
    refine c_impl_made (fun e => sixG (pi e) (pj e)) (by omega) (by omega) (by omega) (fun e _ => sixG_bd _ _) (fun i j i0 i1 i2 w' K' hb' hk' => cv rfl ?_) fun w3 q3 => ?_
    · have hp := pair_enum i0 i1 (by omega)
      simp only [hp.1, hp.2] at hk'
      exact c_impl_named_1 i0 i1 i2 (hk' w' (Below.refl _ _))
    · have hs3 := q3.size
      exact c_ret (K := fun y w' => K (y, true) w') (c := colG 16 3 sixG) six_ok (hv.keep q3) (by omega) fun w4 q4 => hK w4 ((q1.trans (q3.mono hs1)).trans q4)
  · rw [if_neg (ff h), if_neg (ff h2), if_neg (ff h3), if_neg (ff h4), if_neg (ff h5)] at hK
    exact c_none (K := fun y w' => K (y, false) w') hv hs1 fun w2 q2 => hK w2 (q1.trans q2)

end Go.Proofs.Ytdkodhonaoecnaa
