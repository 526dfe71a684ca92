/- The reading of impl_digitalOf_1, and its contract. No condition. -/
import Derived.Test.YtdkodhonaoecnaaTy
import Derived.Test.YtdkodhonaoecnaaS6Pair
namespace Go.Proofs.Ytdkodhonaoecnaa
open Go Go.RowKit Eng Mem
set_option linter.unusedVariables false
set_option maxRecDepth 100000
def V_impl_digitalOf_1 (i0 : Int) (j1 : Int) (x2 : Value) (w : World) (K : Int → World → Prop) : Prop :=
  (QSub Try.prog (Instr.loadAt 25 x2) w .any fun (x6_1 : Value) => (QAll Try.prog (Instr.indexAt 25 x6_1 (.int .i64 (IntKind.i64.wrap ((IntKind.i64.wrap ((BitVec.toNat (BitVec.ofInt (IntKind.bits .i64) i0 ^^^ BitVec.ofInt (IntKind.bits .i64) j1) : Nat))) - (1 : Int))))) .any fun (x11_2 : Value) => (QSub Try.prog (Instr.loadAt 2 x11_2) w (.int .i64) fun (x12_3 : Int) => K x12_3 w)))

theorem eq_impl_digitalOf_1 (i0 : Int) (j1 : Int) (x2 : Value) (w : World) (K : Int → World → Prop) :
    W Try.prog ty (fun _ _ _ _ => False) (bodyOf Try.f123) (fnPost Try.prog Try.f123.results.toList (.one (.int .i64)) K) (frame0 [(.int .i64 i0), (.int .i64 j1), x2] 13) w = V_impl_digitalOf_1 i0 j1 x2 w K := by
  kernel_rfl

theorem body_impl_digitalOf_1 : Try.f123.body = some (bodyOf Try.f123) := by kernel_rfl
theorem name_impl_digitalOf_1 : (Try.f123.name == "runtime.NumGoroutine") = false := by kernel_rfl

theorem walk_impl_digitalOf_1 (i0 : Int) (j1 : Int) (x2 : Value) {w : World} {K : Int → World → Prop} (h : V_impl_digitalOf_1 i0 j1 x2 w K) : Fc Try.prog 123 #[(.int .i64 i0), (.int .i64 j1), x2] w (.one (.int .i64)) K :=
  fn_ok follows (sound_none _) Try.func123 name_impl_digitalOf_1 body_impl_digitalOf_1 Try.ntmps123 [(.int .i64 i0), (.int .i64 j1), x2] (Eq.mpr (eq_impl_digitalOf_1 i0 j1 x2 w K) h)

-- uses S6Pair
theorem c_impl_digitalOf_1 {p v : Value} {l : List Int} {i j : Int} {w : World} {K : Int → World → Prop} (hp : Cell w p v) (h : SlI w v l) (h0 : 0 ≤ i) (h1 : i < j) (h2 : j ≤ 17) (hl : xr i j ≤ l.length)
    (hK : K (l.getD (xr i j - 1).toNat 0) w) : Fc Try.prog F_impl_digitalOf_1 #[.int .i64 i, .int .i64 j, p] w (.one (.int .i64)) K := by
  have hd := xr_bd (d := 5) h0 h1 (by omega)
  refine walk_impl_digitalOf_1 _ _ _ (ld (k := .any) y1SI hp ?_)
  rw [wxor h0 (by omega) (by omega) (by omega), wrap_small (by omega) (by omega)]
  exact atI h (by omega) (by omega) hK

end Go.Proofs.Ytdkodhonaoecnaa
