/- The reading of impl_Colouring_neighbours, and its contract. No condition. -/
import Derived.Test.YtdkodhonaoecnaaTy
import Derived.Test.YtdkodhonaoecnaaS8Deg
import Derived.Test.YtdkodhonaoecnaaFimplUColouringUneighboursU1
import Derived.Test.YtdkodhonaoecnaaFimplUColouringUthat
namespace Go.Proofs.Ytdkodhonaoecnaa
open Go Go.RowKit Eng Mem
set_option linter.unusedVariables false
set_option maxRecDepth 100000
def V_impl_Colouring_neighbours (x0 : Value) (i1 : Int) (c2 : Int) (w : World) (K : Value → World → Prop) : Prop :=
  (Pr Try.prog (Instr.box 76 x0) w (.one .any) fun (x3_2 : Value) w_1 => (Pr Try.prog (Instr.box 2 (.int .i64 i1)) w_1 (.one .any) fun (i4_4 : Value) w_3 => (Pr Try.prog (Instr.box 2 (.int .i64 c2)) w_3 (.one .any) fun (c5_6 : Value) w_5 => (QSub Try.prog (Instr.loadAt 76 x3_2) w_5 .any fun (x7_7 : Value) => (Fc Try.prog 128 #[x7_7, (.func (.func 129) #[] #[x3_2, i4_4, c5_6])] w_5 (.one .any) fun (x9_9 : Value) w_8 => K (x9_9 : Value) w_8)))))

theorem eq_impl_Colouring_neighbours (x0 : Value) (i1 : Int) (c2 : Int) (w : World) (K : Value → World → Prop) :
    W Try.prog ty (fun _ _ _ _ => False) (bodyOf Try.f120) (fnPost Try.prog Try.f120.results.toList (.one .any) K) (frame0 [x0, (.int .i64 i1), (.int .i64 c2)] 10) w = V_impl_Colouring_neighbours x0 i1 c2 w K := by
  kernel_rfl

theorem body_impl_Colouring_neighbours : Try.f120.body = some (bodyOf Try.f120) := by kernel_rfl
theorem name_impl_Colouring_neighbours : (Try.f120.name == "runtime.NumGoroutine") = false := by kernel_rfl

theorem walk_impl_Colouring_neighbours (x0 : Value) (i1 : Int) (c2 : Int) {w : World} {K : Value → World → Prop} (h : V_impl_Colouring_neighbours x0 i1 c2 w K) : Fc Try.prog 120 #[x0, (.int .i64 i1), (.int .i64 c2)] w (.one .any) K :=
  fn_ok follows (sound_none _) Try.func120 name_impl_Colouring_neighbours body_impl_Colouring_neighbours Try.ntmps120 [x0, (.int .i64 i1), (.int .i64 c2)] (Eq.mpr (eq_impl_Colouring_neighbours x0 i1 c2 w K) h)

-- uses S8Deg
theorem c_impl_Colouring_neighbours {x : Value} {c : Col} {i col : Int} {w : World} {K : Value → World → Prop} (hc : c.Ok) (hx : ColAt w x c) (h0 : 0 ≤ i) (h1 : i < 17) (n1 : c.n ≤ 17)
    (hK : ∀ v w' b, w.heap.size ≤ b → Below w.heap.size w w' → OwnI w' b v (sel (fun j => joinB c i j col) c.n.toNat) → K v w') : Fc Try.prog F_impl_Colouring_neighbours #[x, .int .i64 i, .int .i64 col] w (.one .any) K := by
  have hxc : x.cells = #[x] := by obtain ⟨a, rfl⟩ := hx.isPtr; rfl
  refine walk_impl_Colouring_neighbours _ _ _ (box [x] (by rw [hxc]) fun b1 w1 m1 => box [.int .i64 i] rfl fun b2 w2 m2 => box [.int .i64 col] rfl fun b3 w3 m3 => ?_)
  have q1 := m1.below
  have q2 := q1.trans (m2.below.mono q1.size)
  have q3 := q2.trans (m3.below.mono q2.size)
  have cx : Cell w3 (ptr b1 0) x := ((row_all (cs := [_]) m1.at_).keep m2.below).keep m3.below
  have ci : Cell w3 (ptr b2 0) (.int .i64 i) := (row_all (cs := [_]) m2.at_).keep m3.below
  have cc : Cell w3 (ptr b3 0) (.int .i64 col) := row_all (cs := [_]) m3.at_
  have hs := q3.size
  refine ld (k := .any) y1PC cx (c_impl_Colouring_that (fun j => joinB c i j col) (hx.keep q3) n1 (fun j hj w' K' hb hk => cv rfl (c_impl_Colouring_neighbours_1 (cx.keep hb) (ci.keep hb) (cc.keep hb) hc ((hx.keep q3).keep hb) h0 h1 (by omega) (by omega) hk)) fun v w4 b hb q4 ho => ?_)
  exact hK v w4 b (by omega) (q3.trans (q4.mono hs)) ho

end Go.Proofs.Ytdkodhonaoecnaa
