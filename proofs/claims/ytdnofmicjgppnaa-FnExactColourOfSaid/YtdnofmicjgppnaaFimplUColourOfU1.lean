/- The reading of impl_ColourOf_1, and its contract. No condition. -/
import Derived.Test.YtdnofmicjgppnaaTy
import Derived.Test.YtdnofmicjgppnaaS1Col
import Derived.Test.YtdnofmicjgppnaaFimplUColouringUhasTwo
namespace Go.Proofs.Ytdnofmicjgppnaa
open Go Go.RowKit Eng Mem
set_option linter.unusedVariables false
set_option maxRecDepth 100000
def V_impl_ColourOf_1 (x0 : Value) (x1 : Value) (x2 : Value) (w : World) (K : Bool → World → Prop) : Prop :=
  (QSub Try.prog (Instr.loadAt 2 x1) w (.int .i64) fun (x4_1 : Int) => (QSub Try.prog (Instr.loadAt 2 x2) w (.int .i64) fun (x5_2 : Int) => (Fc Try.prog 65 #[x0, (.int .i64 x4_1), (.int .i64 x5_2)] w (.one .bool) fun (x6_4 : Bool) w_3 => K x6_4 w_3)))

theorem eq_impl_ColourOf_1 (x0 : Value) (x1 : Value) (x2 : Value) (w : World) (K : Bool → World → Prop) :
    W Try.prog ty (fun _ _ _ _ => False) (bodyOf Try.f64) (fnPost Try.prog Try.f64.results.toList (.one .bool) K) (frame0 [x0, x1, x2] 7) w = V_impl_ColourOf_1 x0 x1 x2 w K := by
  kernel_rfl

theorem body_impl_ColourOf_1 : Try.f64.body = some (bodyOf Try.f64) := by kernel_rfl
theorem name_impl_ColourOf_1 : (Try.f64.name == "runtime.NumGoroutine") = false := by kernel_rfl

theorem walk_impl_ColourOf_1 (x0 : Value) (x1 : Value) (x2 : Value) {w : World} {K : Bool → World → Prop} (h : V_impl_ColourOf_1 x0 x1 x2 w K) : Fc Try.prog 64 #[x0, x1, x2] w (.one .bool) K :=
  fn_ok follows (sound_none _) Try.func64 name_impl_ColourOf_1 body_impl_ColourOf_1 Try.ntmps64 [x0, x1, x2] (Eq.mpr (eq_impl_ColourOf_1 x0 x1 x2 w K) h)

-- uses S1Col
theorem c_impl_ColourOf_1 {p q r : Value} {c : Col} {i j : Int} {w : World} {K : Bool → World → Prop} (hx : ColAt w p c) (hq : Cell w q (.int .i64 i)) (hr : Cell w r (.int .i64 j)) (h0 : 0 ≤ c.n) (h1 : c.n ≤ 17) (hK : K (decide ((0 ≤ i ∧ i ≤ c.n - 1) ∧ (0 ≤ j ∧ j ≤ c.n - 1) ∧ i ≠ j)) w) :
    Fc Try.prog F_impl_ColourOf_1 #[p, q, r] w (.one .bool) K :=
  walk_impl_ColourOf_1 _ _ _ (ld (k := .int .i64) yI hq (ld (k := .int .i64) yI hr (c_impl_Colouring_hasTwo hx h0 h1 hK)))

end Go.Proofs.Ytdnofmicjgppnaa
