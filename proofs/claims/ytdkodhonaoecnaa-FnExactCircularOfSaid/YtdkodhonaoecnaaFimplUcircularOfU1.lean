/- The reading of impl_circularOf_1, and its contract. No condition. -/
import Derived.Test.YtdkodhonaoecnaaTy
import Derived.Test.YtdkodhonaoecnaaS7Sq
import Derived.Test.YtdkodhonaoecnaaFimplUdistance
namespace Go.Proofs.Ytdkodhonaoecnaa
open Go Go.RowKit Eng Mem
set_option linter.unusedVariables false
set_option maxRecDepth 100000
def V_impl_circularOf_1 (i0 : Int) (j1 : Int) (x2 : Value) (x3 : Value) (w : World) (K : Int → World → Prop) : Prop :=
  (∀ w_1, Drew w w_1 → (QSub Try.prog (Instr.loadAt 25 x2) w_1 .any fun (x7_2 : Value) => (QSub Try.prog (Instr.loadAt 2 x3) w_1 (.int .i64) fun (x8_3 : Int) => (Fc Try.prog 107 #[(.int .i64 x8_3), (.int .i64 i0), (.int .i64 j1)] w_1 (.one (.int .i64)) fun (x11_5 : Int) w_4 => (Keeps w_1 w_4 ((QAll Try.prog (Instr.indexAt 25 x7_2 (.int .i64 (IntKind.i64.wrap (x11_5 - (1 : Int))))) .any fun (x13_6 : Value) => (QSub Try.prog (Instr.loadAt 2 x13_6) w_4 (.int .i64) fun (x14_7 : Int) => K x14_7 w_4))))))))

theorem eq_impl_circularOf_1 (i0 : Int) (j1 : Int) (x2 : Value) (x3 : Value) (w : World) (K : Int → World → Prop) :
    W Try.prog ty (fun _ _ _ _ => False) (bodyOf Try.f106) (fnPost Try.prog Try.f106.results.toList (.one (.int .i64)) K) (frame0 [(.int .i64 i0), (.int .i64 j1), x2, x3] 15) w = V_impl_circularOf_1 i0 j1 x2 x3 w K := by
  kernel_rfl

theorem body_impl_circularOf_1 : Try.f106.body = some (bodyOf Try.f106) := by kernel_rfl
theorem name_impl_circularOf_1 : (Try.f106.name == "runtime.NumGoroutine") = false := by kernel_rfl

theorem walk_impl_circularOf_1 (i0 : Int) (j1 : Int) (x2 : Value) (x3 : Value) {w : World} {K : Int → World → Prop} (h : V_impl_circularOf_1 i0 j1 x2 x3 w K) : Fc Try.prog 106 #[(.int .i64 i0), (.int .i64 j1), x2, x3] w (.one (.int .i64)) K :=
  fn_ok follows (sound_none _) Try.func106 name_impl_circularOf_1 body_impl_circularOf_1 Try.ntmps106 [(.int .i64 i0), (.int .i64 j1), x2, x3] (Eq.mpr (eq_impl_circularOf_1 i0 j1 x2 x3 w K) h)

-- uses S7Sq
theorem c_impl_circularOf_1 {p q v : Value} {l : List Int} {n i j : Int} {w : World} {K : Int → World → Prop} (hp : Cell w p v) (hq : Cell w q (.int .i64 n)) (h : SlI w v l) (i0 : 0 ≤ i) (i1 : i < j) (i2 : j < n) (n1 : n ≤ 17) (hl : n / 2 ≤ (l.length : Int))
    (hK : ∀ w', Below w.heap.size w w' → K (circG l n i j) w') : Fc Try.prog F_impl_circularOf_1 #[.int .i64 i, .int .i64 j, p, q] w (.one (.int .i64)) K := by
  have hd := dist_bd i0 i1 i2
  refine walk_impl_circularOf_1 _ _ _ _ ?_
  intro w1 hdr
  have hb := hdr.below w.heap.size
  refine ld (k := .any) y1SI (hp.keep hb) (ld (k := .int .i64) yI (hq.keep hb) (c_impl_distance i0 i1 i2 n1 ⟨Below.refl _ _, ?_⟩))
  rw [wrap_small (by omega) (by omega)]
  exact atI (h.keep hb) (by omega) (by omega) (hK w1 hb)

end Go.Proofs.Ytdkodhonaoecnaa
