/- The reading of impl_goesOn_1, and its contract. No condition. -/
import Derived.Test.YtdkodhonaoecnaaTy
import Derived.Test.YtdkodhonaoecnaaS1Col
namespace Go.Proofs.Ytdkodhonaoecnaa
open Go Go.RowKit Eng Mem
set_option linter.unusedVariables false
set_option maxRecDepth 100000
def V_impl_goesOn_1 (x0 : Int) (y1 : Int) (x2 : Value) (w : World) (K : Unit → World → Prop) : Prop :=
  (PrU Try.prog (Instr.storeAt 4 x2 (.bool false)) w fun w_1 => K () w_1)

theorem eq_impl_goesOn_1 (x0 : Int) (y1 : Int) (x2 : Value) (w : World) (K : Unit → World → Prop) :
    W Try.prog ty (fun _ _ _ _ => False) (bodyOf Try.f126) (fnPost Try.prog Try.f126.results.toList .unit K) (frame0 [(.int .i64 x0), (.int .i64 y1), x2] 5) w = V_impl_goesOn_1 x0 y1 x2 w K := by
  kernel_rfl

theorem body_impl_goesOn_1 : Try.f126.body = some (bodyOf Try.f126) := by kernel_rfl
theorem name_impl_goesOn_1 : (Try.f126.name == "runtime.NumGoroutine") = false := by kernel_rfl

theorem walk_impl_goesOn_1 (x0 : Int) (y1 : Int) (x2 : Value) {w : World} {K : Unit → World → Prop} (h : V_impl_goesOn_1 x0 y1 x2 w K) : Fc Try.prog 126 #[(.int .i64 x0), (.int .i64 y1), x2] w .unit K :=
  fn_ok follows (sound_none _) Try.func126 name_impl_goesOn_1 body_impl_goesOn_1 Try.ntmps126 [(.int .i64 x0), (.int .i64 y1), x2] (Eq.mpr (eq_impl_goesOn_1 x0 y1 x2 w K) h)

-- uses S1Col
theorem c_impl_goesOn_1 {b e : Nat} {v : Value} {x y : Int} {w : World} {K : Unit → World → Prop} (h : Blk w b [v] e) (hK : ∀ w', Mod [b] w w' → Blk w' b [.bool false] e → K () w') : Fc Try.prog F_impl_goesOn_1 #[.int .i64 x, .int .i64 y, ptr b 0] w .unit K :=
  walk_impl_goesOn_1 _ _ _ (st yb h (by simp) rfl fun w' m _ hb => hK w' m hb)

end Go.Proofs.Ytdkodhonaoecnaa
