/- The reading of impl_JoinColours, and its contract. No condition. -/
import Derived.Test.YtkadckhealbdaaaTy
import Derived.Test.YtkadckhealbdaaaS8Rec
import Derived.Test.YtkadckhealbdaaaFimplUColouringUcode
import Derived.Test.YtkadckhealbdaaaFimplUColouringUrecoloured
import Derived.Test.YtkadckhealbdaaaFimplUJoinColoursU1
import Derived.Test.YtkadckhealbdaaaFimplUJoinColoursU2
namespace Go.Proofs.Ytkadckhealbdaaa
open Go Go.RowKit Eng Mem
set_option linter.unusedVariables false
set_option maxRecDepth 100000
def V_impl_JoinColours (x0 : Value) (c1 : Int) (d2 : Int) (w : World) (K : (Value × Int) → World → Prop) : Prop :=
  (Pr Try.prog (Instr.box 25 x0) w (.one .any) fun (x3_2 : Value) w_1 => (Pr Try.prog (Instr.box 2 (.int .i64 c1)) w_1 (.one .any) fun (c4_4 : Value) w_3 => (Pr Try.prog (Instr.box 2 (.int .i64 d2)) w_3 (.one .any) fun (d5_6 : Value) w_5 => (Pr Try.prog (Instr.alloc 25 true (.tuple #[])) w_5 (.one .any) fun (x6_8 : Value) w_7 => (Fc Try.prog 46 #[x3_2, (.func (.func 47) #[] #[x3_2, c4_4, d5_6])] w_7 (.one (.int .i64)) fun (x10_10 : Int) w_9 => (((x10_10 != (0 : Int)) = true → (Pr Try.prog (Instr.build 25 #[]) w_9 (.one .any) fun (x13_12 : Value) w_11 => (PrU Try.prog (Instr.storeAt 25 x6_8 x13_12) w_11 fun w_13 => (QSub Try.prog (Instr.loadAt 25 x6_8) w_13 .any fun (r_15 : Value) => K ((r_15 : Value), x10_10) w_13)))) ∧ ((x10_10 != (0 : Int)) = false → (QAll Try.prog (Instr.fieldAt 25 x3_2 1) .any fun (x15_16 : Value) => (QSub Try.prog (Instr.loadAt 2 x15_16) w_9 (.int .i64) fun (x16_17 : Int) => (Fc Try.prog 49 #[x3_2, (.int .i64 (IntKind.i64.wrap (x16_17 - (1 : Int)))), (.func (.func 50) #[] #[d5_6, c4_4])] w_9 (.one .any) fun (x19_19 : Value) w_18 => (PrU Try.prog (Instr.storeAt 25 x6_8 x19_19) w_18 fun w_20 => (QSub Try.prog (Instr.loadAt 25 x6_8) w_20 .any fun (r_22 : Value) => K ((r_22 : Value), (0 : Int)) w_20))))))))))))

theorem eq_impl_JoinColours (x0 : Value) (c1 : Int) (d2 : Int) (w : World) (K : (Value × Int) → World → Prop) :
    W Try.prog ty (fun _ _ _ _ => False) (bodyOf Try.f16) (fnPost Try.prog Try.f16.results.toList (.two .any (.int .i64)) K) (frame0 [x0, (.int .i64 c1), (.int .i64 d2)] 20) w = V_impl_JoinColours x0 c1 d2 w K := by
  kernel_rfl

theorem body_impl_JoinColours : Try.f16.body = some (bodyOf Try.f16) := by kernel_rfl
theorem name_impl_JoinColours : (Try.f16.name == "runtime.NumGoroutine") = false := by kernel_rfl

theorem walk_impl_JoinColours (x0 : Value) (c1 : Int) (d2 : Int) {w : World} {K : (Value × Int) → World → Prop} (h : V_impl_JoinColours x0 c1 d2 w K) : Fc Try.prog 16 #[x0, (.int .i64 c1), (.int .i64 d2)] w (.two .any (.int .i64)) K :=
  fn_ok follows (sound_none _) Try.func16 name_impl_JoinColours body_impl_JoinColours Try.ntmps16 [x0, (.int .i64 c1), (.int .i64 d2)] (Eq.mpr (eq_impl_JoinColours x0 c1 d2 w K) h)

-- uses S8Rec
theorem c_impl_JoinColours {x : Col} {c d : Int} {w : World} {K : Value × Int → World → Prop} (hx : x.Ok) (_ : I64 c) (_ : I64 d)
    (hK : ∀ w', Below w.heap.size w w' → (joinF x c d).1.Ok → K ((joinF x c d).1.val, (joinF x c d).2) w') : Fc Try.prog F_impl_JoinColours #[x.val, .int .i64 c, .int .i64 d] w (.two .any (.int .i64)) K := by
  have hK := fun w' hb => hK w' hb (joinF_ok hx c d)
  unfold joinF at hK
  refine walk_impl_JoinColours _ _ _ (col_box fun b1 w1 m1 ax => box [.int .i64 c] rfl fun b2 w2 m2 => box [.int .i64 d] rfl fun b3 w3 m3 => c_alloc fun p w4 q4 hv => ?_)
  have q1 := m1.below
  have q2 := q1.trans (m2.below.mono q1.size)
  have q3 := q2.trans (m3.below.mono q2.size)
  have hs3 := q3.size; have hs4 := q4.size
  have ax4 := ((ax.keep m2.below).keep m3.below).keep q4
  have cc : Cell w4 (ptr b2 0) (.int .i64 c) := ((row_all (cs := [_]) m2.at_).keep m3.below).keep q4
  have cd : Cell w4 (ptr b3 0) (.int .i64 d) := (row_all (cs := [_]) m3.at_).keep q4
  refine c_impl_Colouring_code (decide (JoinIs x c d)) hx ax4 (fun hI w' K' hb' hk => cv rfl (c_impl_JoinColours_1 (ax4.keep hb') (cc.keep hb') (cd.keep hb') (by have := hI.2.2.1; omega) hI.2.2.2.1 (hk _ (Below.refl _ _)))) fun w5 q5 => ?_
  have hv5 := hv.keep q5
  have hs5 := q5.size
  have q35 : Below w3.heap.size w3 w5 := q4.trans (q5.mono hs4)
  by_cases hI : x.Is
  case neg =>
    rw [if_neg hI] at hK ⊢
    exact ⟨fun _ => c_none hv5 (by omega) fun w' q => hK w' (q3.trans ((q35.trans q).mono hs3)), fun h => absurd (ne_f h) (by omega)⟩
  rw [if_pos hI] at hK ⊢
  by_cases hJ : JoinIs x c d
  case neg =>
    rw [if_neg hJ] at hK
    rw [if_neg (by simpa using hJ)]
    exact ⟨fun _ => c_none hv5 (by omega) fun w' q => hK w' (q3.trans ((q35.trans q).mono hs3)), fun h => absurd (ne_f h) (by omega)⟩
  rw [if_pos hJ] at hK
  rw [if_pos (by simpa using hJ)]
  have hk := hI.2.2.2.1; have hk1 := hI.2.2.1
  refine ⟨fun h => absurd rfl (ne_t h), fun _ => col_k (ax4.keep q5) ?_⟩
  rw [wrap_small (by omega) (by omega)]
  have hd0 := hJ.2.1.1
  refine c_impl_Colouring_recoloured (joinG c d) hx hI (ax4.keep q5) ⟨by omega, by omega⟩ (fun e e0 e1 => joinG_bd hJ hk e0 e1) rfl (fun e e0 e1 w' K' hb hk' => cv rfl (c_impl_JoinColours_2 ((cd.keep q5).keep hb) ((cc.keep q5).keep hb) ⟨e0, by omega⟩ hd0 (hk' _ (Below.refl _ _)))) fun w6 q6 => ?_
  have hs6 := q6.size
  refine c_ret (recF_ok hx ⟨by omega, by omega⟩ fun e he => joinG_bd hJ hk (is_e hI hx he).1 (is_e hI hx he).2) (hv5.keep q6) (by omega) fun w7 q7 => hK w7 (q3.trans (((q35.trans (q6.mono (by omega))).trans q7).mono hs3))

end Go.Proofs.Ytkadckhealbdaaa
