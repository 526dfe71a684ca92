/- The reading of impl_byDifference_1, and its contract. No condition. -/
import Derived.Test.YtdkodhonaoecnaaTy
import Derived.Test.YtdkodhonaoecnaaS7Sq
import Derived.Test.YtdkodhonaoecnaaFslicesUContainsUint64Uint64
namespace Go.Proofs.Ytdkodhonaoecnaa
open Go Go.RowKit Eng Mem
set_option linter.unusedVariables false
set_option maxRecDepth 100000
def V_impl_byDifference_1 (i0 : Int) (j1 : Int) (x2 : Value) (x3 : Value) (w : World) (K : Int → World → Prop) : Prop :=
  (QSub Try.prog (Instr.loadAt 25 x2) w .any fun (x7_1 : Value) => (Fc Try.prog 99 #[x7_1, (.int .i64 (IntKind.i64.wrap (j1 - i0)))] w (.one .bool) fun (x11_3 : Bool) w_2 => ((x11_3 = true → K (0 : Int) w_2) ∧ (x11_3 = false → (QSub Try.prog (Instr.loadAt 25 x2) w_2 .any fun (x13_4 : Value) => (QSub Try.prog (Instr.loadAt 2 x3) w_2 (.int .i64) fun (x14_5 : Int) => (Fc Try.prog 99 #[x13_4, (.int .i64 (IntKind.i64.wrap ((IntKind.i64.wrap (x14_5 - j1)) + i0)))] w_2 (.one .bool) fun (x19_7 : Bool) w_6 => ((x19_7 = true → K (0 : Int) w_6) ∧ (x19_7 = false → K (1 : Int) w_6)))))))))

theorem eq_impl_byDifference_1 (i0 : Int) (j1 : Int) (x2 : Value) (x3 : Value) (w : World) (K : Int → World → Prop) :
    W Try.prog ty (fun _ _ _ _ => False) (bodyOf Try.f127) (fnPost Try.prog Try.f127.results.toList (.one (.int .i64)) K) (frame0 [(.int .i64 i0), (.int .i64 j1), x2, x3] 21) w = V_impl_byDifference_1 i0 j1 x2 x3 w K := by
  kernel_rfl

theorem body_impl_byDifference_1 : Try.f127.body = some (bodyOf Try.f127) := by kernel_rfl
theorem name_impl_byDifference_1 : (Try.f127.name == "runtime.NumGoroutine") = false := by kernel_rfl

theorem walk_impl_byDifference_1 (i0 : Int) (j1 : Int) (x2 : Value) (x3 : Value) {w : World} {K : Int → World → Prop} (h : V_impl_byDifference_1 i0 j1 x2 x3 w K) : Fc Try.prog 127 #[(.int .i64 i0), (.int .i64 j1), x2, x3] w (.one (.int .i64)) K :=
  fn_ok follows (sound_none _) Try.func127 name_impl_byDifference_1 body_impl_byDifference_1 Try.ntmps127 [(.int .i64 i0), (.int .i64 j1), x2, x3] (Eq.mpr (eq_impl_byDifference_1 i0 j1 x2 x3 w K) h)

-- uses S7Sq
theorem c_impl_byDifference_1 {p q v : Value} {l : List Int} {n i j : Int} {w : World} {K : Int → World → Prop} (hp : Cell w p v) (hq : Cell w q (.int .i64 n)) (h : SlI w v l) (i0 : 0 ≤ i) (i1 : i < 1000) (j0 : 0 ≤ j) (j1 : j < 1000) (n0 : 0 ≤ n) (n1 : n < 1000) (hK : K (diffG l n i j) w) :
    Fc Try.prog F_impl_byDifference_1 #[.int .i64 i, .int .i64 j, p, q] w (.one (.int .i64)) K := by
  unfold diffG at hK
  refine walk_impl_byDifference_1 _ _ _ _ (ld (k := .any) y1SI hp ?_)
  rw [wrap_small (by omega) (by omega)]
  refine c_slices_Contains_int64_int64 h ⟨fun h1 => by rwa [if_pos h1] at hK, fun h1 => ?_⟩
  rw [if_neg (by simp only [h1]; simp)] at hK
  refine ld (k := .any) y1SI hp (ld (k := .int .i64) yI hq ?_)
  rw [wrap_small (n := n - j) (by omega) (by omega), wrap_small (by omega) (by omega)]
  refine c_slices_Contains_int64_int64 h ⟨fun h2 => by rwa [if_pos h2] at hK, fun h2 => ?_⟩
  rwa [if_neg (by simp only [h2]; simp)] at hK

end Go.Proofs.Ytdkodhonaoecnaa
