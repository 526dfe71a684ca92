/- The reading of impl_NamedColouring, and its contract. No condition. -/
import Derived.Test.YtdkodhonaoecnaaTy
import Derived.Test.YtdkodhonaoecnaaS9Nam
import Derived.Test.YtdkodhonaoecnaaFimplUnamed
namespace Go.Proofs.Ytdkodhonaoecnaa
open Go Go.RowKit Eng Mem
set_option linter.unusedVariables false
set_option maxRecDepth 100000
def V_impl_NamedColouring (name0 : ByteArray) (w : World) (K : (Value × Int) → World → Prop) : Prop :=
  (Pr Try.prog (Instr.alloc 28 true (.tuple #[])) w (.one .any) fun (x2_2 : Value) w_1 => (Fc Try.prog 78 #[(.string name0)] w_1 (.two .any .bool) fun (x8_4 : Value × Bool) w_3 => (Pr Try.prog (Instr.alloc 28 true (.tuple #[])) w_3 (.one .any) fun (x4_6 : Value) w_5 => (PrU Try.prog (Instr.storeAt 28 x4_6 x8_4.1) w_5 fun w_7 => (((!x8_4.2) = true → (Pr Try.prog (Instr.build 28 #[]) w_7 (.one .any) fun (x13_10 : Value) w_9 => (PrU Try.prog (Instr.storeAt 28 x2_2 x13_10) w_9 fun w_11 => (QSub Try.prog (Instr.loadAt 28 x2_2) w_11 .any fun (r_13 : Value) => K ((r_13 : Value), (4 : Int)) w_11)))) ∧ ((!x8_4.2) = false → (QSub Try.prog (Instr.loadAt 28 x4_6) w_7 .any fun (x14_14 : Value) => (PrU Try.prog (Instr.storeAt 28 x2_2 x14_14) w_7 fun w_15 => (QSub Try.prog (Instr.loadAt 28 x2_2) w_15 .any fun (r_17 : Value) => K ((r_17 : Value), (0 : Int)) w_15)))))))))

theorem eq_impl_NamedColouring (name0 : ByteArray) (w : World) (K : (Value × Int) → World → Prop) :
    W Try.prog ty (fun _ _ _ _ => False) (bodyOf Try.f30) (fnPost Try.prog Try.f30.results.toList (.two .any (.int .i64)) K) (frame0 [(.string name0)] 15) w = V_impl_NamedColouring name0 w K := by
  kernel_rfl

theorem body_impl_NamedColouring : Try.f30.body = some (bodyOf Try.f30) := by kernel_rfl
theorem name_impl_NamedColouring : (Try.f30.name == "runtime.NumGoroutine") = false := by kernel_rfl

theorem walk_impl_NamedColouring (name0 : ByteArray) {w : World} {K : (Value × Int) → World → Prop} (h : V_impl_NamedColouring name0 w K) : Fc Try.prog 30 #[(.string name0)] w (.two .any (.int .i64)) K :=
  fn_ok follows (sound_none _) Try.func30 name_impl_NamedColouring body_impl_NamedColouring Try.ntmps30 [(.string name0)] (Eq.mpr (eq_impl_NamedColouring name0 w K) h)

-- uses S9Nam
theorem c_impl_NamedColouring {s : ByteArray} {w : World} {K : Value × Int → World → Prop} (_ : s.size ≤ maxLen)
    (hK : ∀ w', Below w.heap.size w w' → (namedF s).1.Ok → K ((namedF s).1.val, (namedF s).2) w') : Fc Try.prog F_impl_NamedColouring #[.string s] w (.two .any (.int .i64)) K := by
  have hK := fun w' hb => hK w' hb (namedF_ok s)
  unfold namedF at hK
  refine walk_impl_NamedColouring _ (c_alloc fun r w1 q1 hv => c_impl_named fun w2 q2 => col_var (namedC_ok s) fun b w3 hb hb3 q3 ho => ?_)
  have hs1 := q1.size; have hs2 := q2.size; have hs3 := q3.size
  have q12 := q1.trans (q2.mono hs1)
  have q13 := q12.trans (q3.mono q12.size)
  have hv3 := (hv.keep q2).keep q3
  refine ⟨fun h => ?_, fun h => ?_⟩
  · rw [if_neg (by simpa using h)] at hK
    exact c_none hv3 (by omega) fun w4 q4 => hK w4 (q13.trans q4)
  · rw [if_pos (by simpa using h)] at hK
    exact col_all (namedC_ok s) ho (c_ret (namedC_ok s) hv3 (by omega) fun w4 q4 => hK w4 (q13.trans q4))

end Go.Proofs.Ytdkodhonaoecnaa
