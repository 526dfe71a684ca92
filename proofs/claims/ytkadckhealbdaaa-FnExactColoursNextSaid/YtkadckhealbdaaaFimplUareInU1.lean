/- The reading of impl_areIn_1, and its contract. No condition. -/
import Derived.Test.YtkadckhealbdaaaTy
import Derived.Test.YtkadckhealbdaaaS2Sl
import Derived.Test.YtkadckhealbdaaaFimplUin
namespace Go.Proofs.Ytkadckhealbdaaa
open Go Go.RowKit Eng Mem
set_option linter.unusedVariables false
set_option maxRecDepth 100000
def V_impl_areIn_1 (n0 : Int) (x1 : Value) (x2 : Value) (w : World) (K : Bool → World → Prop) : Prop :=
  (QSub Try.prog (Instr.loadAt 2 x1) w (.int .i64) fun (x6_1 : Int) => (QSub Try.prog (Instr.loadAt 2 x2) w (.int .i64) fun (x7_2 : Int) => (Fc Try.prog 54 #[(.int .i64 n0), (.int .i64 x6_1), (.int .i64 x7_2)] w (.one .bool) fun (x8_4 : Bool) w_3 => K (!x8_4) w_3)))

theorem eq_impl_areIn_1 (n0 : Int) (x1 : Value) (x2 : Value) (w : World) (K : Bool → World → Prop) :
    W Try.prog ty (fun _ _ _ _ => False) (bodyOf Try.f123) (fnPost Try.prog Try.f123.results.toList (.one .bool) K) (frame0 [(.int .i64 n0), x1, x2] 10) w = V_impl_areIn_1 n0 x1 x2 w K := by
  kernel_rfl

theorem body_impl_areIn_1 : Try.f123.body = some (bodyOf Try.f123) := by kernel_rfl
theorem name_impl_areIn_1 : (Try.f123.name == "runtime.NumGoroutine") = false := by kernel_rfl

theorem walk_impl_areIn_1 (n0 : Int) (x1 : Value) (x2 : Value) {w : World} {K : Bool → World → Prop} (h : V_impl_areIn_1 n0 x1 x2 w K) : Fc Try.prog 123 #[(.int .i64 n0), x1, x2] w (.one .bool) K :=
  fn_ok follows (sound_none _) Try.func123 name_impl_areIn_1 body_impl_areIn_1 Try.ntmps123 [(.int .i64 n0), x1, x2] (Eq.mpr (eq_impl_areIn_1 n0 x1 x2 w K) h)

-- uses S2Sl
theorem c_impl_areIn_1 {p q : Value} {n lo hi : Int} {w : World} {K : Bool → World → Prop} (hp : Cell w p (.int .i64 lo)) (hq : Cell w q (.int .i64 hi)) (hK : K (!decide (lo ≤ n ∧ n ≤ hi)) w) :
    Fc Try.prog F_impl_areIn_1 #[.int .i64 n, p, q] w (.one .bool) K :=
  walk_impl_areIn_1 _ _ _ (ld (k := .int .i64) yI hp (ld (k := .int .i64) yI hq (c_impl_in _ _ _ hK)))

end Go.Proofs.Ytkadckhealbdaaa
