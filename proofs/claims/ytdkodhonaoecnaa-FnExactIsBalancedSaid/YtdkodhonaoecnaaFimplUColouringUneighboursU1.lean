/- The reading of impl_Colouring_neighbours_1, and its contract. No condition. -/
import Derived.Test.YtdkodhonaoecnaaTy
import Derived.Test.YtdkodhonaoecnaaS8Deg
import Derived.Test.YtdkodhonaoecnaaFimplUColouringUjoins
namespace Go.Proofs.Ytdkodhonaoecnaa
open Go Go.RowKit Eng Mem
set_option linter.unusedVariables false
set_option maxRecDepth 100000
def V_impl_Colouring_neighbours_1 (j0 : Int) (x1 : Value) (x2 : Value) (x3 : Value) (w : World) (K : Bool → World → Prop) : Prop :=
  (QSub Try.prog (Instr.loadAt 76 x1) w .any fun (x6_1 : Value) => (QSub Try.prog (Instr.loadAt 2 x2) w (.int .i64) fun (x7_2 : Int) => (QSub Try.prog (Instr.loadAt 2 x3) w (.int .i64) fun (x9_3 : Int) => (Fc Try.prog 130 #[x6_1, (.int .i64 x7_2), (.int .i64 j0), (.int .i64 x9_3)] w (.one .bool) fun (x10_5 : Bool) w_4 => K x10_5 w_4))))

theorem eq_impl_Colouring_neighbours_1 (j0 : Int) (x1 : Value) (x2 : Value) (x3 : Value) (w : World) (K : Bool → World → Prop) :
    W Try.prog ty (fun _ _ _ _ => False) (bodyOf Try.f129) (fnPost Try.prog Try.f129.results.toList (.one .bool) K) (frame0 [(.int .i64 j0), x1, x2, x3] 11) w = V_impl_Colouring_neighbours_1 j0 x1 x2 x3 w K := by
  kernel_rfl

theorem body_impl_Colouring_neighbours_1 : Try.f129.body = some (bodyOf Try.f129) := by kernel_rfl
theorem name_impl_Colouring_neighbours_1 : (Try.f129.name == "runtime.NumGoroutine") = false := by kernel_rfl

theorem walk_impl_Colouring_neighbours_1 (j0 : Int) (x1 : Value) (x2 : Value) (x3 : Value) {w : World} {K : Bool → World → Prop} (h : V_impl_Colouring_neighbours_1 j0 x1 x2 x3 w K) : Fc Try.prog 129 #[(.int .i64 j0), x1, x2, x3] w (.one .bool) K :=
  fn_ok follows (sound_none _) Try.func129 name_impl_Colouring_neighbours_1 body_impl_Colouring_neighbours_1 Try.ntmps129 [(.int .i64 j0), x1, x2, x3] (Eq.mpr (eq_impl_Colouring_neighbours_1 j0 x1 x2 x3 w K) h)

-- uses S8Deg
theorem c_impl_Colouring_neighbours_1 {p q r x : Value} {c : Col} {i j col : Int} {w : World} {K : Bool → World → Prop} (hp : Cell w p x) (hq : Cell w q (.int .i64 i)) (hr : Cell w r (.int .i64 col)) (hc : c.Ok) (hx : ColAt w x c) (h0 : 0 ≤ i) (h1 : i < 17) (k0 : 0 ≤ j) (k1 : j < 17)
    (hK : ∀ w', Below w.heap.size w w' → K (joinB c i j col) w') : Fc Try.prog F_impl_Colouring_neighbours_1 #[.int .i64 j, p, q, r] w (.one .bool) K :=
  walk_impl_Colouring_neighbours_1 _ _ _ _ (ld (k := .any) y1PC hp (ld (k := .int .i64) yI hq (ld (k := .int .i64) yI hr (c_impl_Colouring_joins hc hx h0 h1 k0 k1 hK))))

end Go.Proofs.Ytdkodhonaoecnaa
