/- The reading of impl_ColouringOf_1, and its contract. No condition. -/
import Derived.Test.YtdnofmicjgppnaaTy
import Derived.Test.YtdnofmicjgppnaaS5Made
import Derived.Test.YtdnofmicjgppnaaFimplUnumber
namespace Go.Proofs.Ytdnofmicjgppnaa
open Go Go.RowKit Eng Mem
set_option linter.unusedVariables false
set_option maxRecDepth 100000
def V_impl_ColouringOf_1 (i0 : Int) (j1 : Int) (x2 : Value) (w : World) (K : Int → World → Prop) : Prop :=
  (∀ w_1, Drew w w_1 → (QSub Try.prog (Instr.loadAt 22 x2) w_1 .any fun (x6_2 : Value) => (Fc Try.prog 51 #[(.int .i64 i0), (.int .i64 j1)] w_1 (.one (.int .i64)) fun (x9_4 : Int) w_3 => (Keeps w_1 w_3 ((QAll Try.prog (Instr.indexAt 22 x6_2 (.int .i64 x9_4)) .any fun (x10_5 : Value) => (QSub Try.prog (Instr.loadAt 2 x10_5) w_3 (.int .i64) fun (x11_6 : Int) => K x11_6 w_3)))))))

theorem eq_impl_ColouringOf_1 (i0 : Int) (j1 : Int) (x2 : Value) (w : World) (K : Int → World → Prop) :
    W Try.prog ty (fun _ _ _ _ => False) (bodyOf Try.f50) (fnPost Try.prog Try.f50.results.toList (.one (.int .i64)) K) (frame0 [(.int .i64 i0), (.int .i64 j1), x2] 12) w = V_impl_ColouringOf_1 i0 j1 x2 w K := by
  kernel_rfl

theorem body_impl_ColouringOf_1 : Try.f50.body = some (bodyOf Try.f50) := by kernel_rfl
theorem name_impl_ColouringOf_1 : (Try.f50.name == "runtime.NumGoroutine") = false := by kernel_rfl

theorem walk_impl_ColouringOf_1 (i0 : Int) (j1 : Int) (x2 : Value) {w : World} {K : Int → World → Prop} (h : V_impl_ColouringOf_1 i0 j1 x2 w K) : Fc Try.prog 50 #[(.int .i64 i0), (.int .i64 j1), x2] w (.one (.int .i64)) K :=
  fn_ok follows (sound_none _) Try.func50 name_impl_ColouringOf_1 body_impl_ColouringOf_1 Try.ntmps50 [(.int .i64 i0), (.int .i64 j1), x2] (Eq.mpr (eq_impl_ColouringOf_1 i0 j1 x2 w K) h)

-- uses S5Made
theorem c_impl_ColouringOf_1 {p v : Value} {l : List Int} {i j : Int} {w : World} {K : Int → World → Prop} (hp : Cell w p v) (h : SlI w v l) (h0 : 0 ≤ i) (h1 : i < j) (h2 : j ≤ 17) (hl : enum i j < l.length)
    (hK : ∀ w', Below w.heap.size w w' → K (l.getD (enum i j).toNat 0) w') : Fc Try.prog F_impl_ColouringOf_1 #[.int .i64 i, .int .i64 j, p] w (.one (.int .i64)) K := by
  refine walk_impl_ColouringOf_1 _ _ _ ?_
  intro w1 hd
  have hb := hd.below w.heap.size
  have := enum_lt h0 h1 (n := j + 1) (by omega)
  refine ld (k := .any) y1SI (hp.keep hb) (c_impl_number h0 (by omega) (by omega) (by omega) ⟨Below.refl _ _, ?_⟩)
  rw [num_of h1]
  have he : 0 ≤ enum i j := by rw [enum_eq]; have := edgesOf_mono (j := 0) (n := j) (by omega) (by omega); have e0 : edgesOf 0 = 0 := by decide
                               omega
  exact atI (h.keep hb) he hl (hK w1 hb)

end Go.Proofs.Ytdnofmicjgppnaa
