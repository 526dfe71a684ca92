/- The reading of impl_byDifference, and its contract. No condition. -/
import Derived.Test.YtdkodhonaoecnaaTy
import Derived.Test.YtdkodhonaoecnaaS7Sq
import Derived.Test.YtdkodhonaoecnaaFimplUbyDifferenceU1
import Derived.Test.YtdkodhonaoecnaaFimplUmade
namespace Go.Proofs.Ytdkodhonaoecnaa
open Go Go.RowKit Eng Mem
set_option linter.unusedVariables false
set_option maxRecDepth 100000
def V_impl_byDifference (n0 : Int) (list1 : Value) (w : World) (K : Value → World → Prop) : Prop :=
  (Pr Try.prog (Instr.box 2 (.int .i64 n0)) w (.one .any) fun (n2_2 : Value) w_1 => (Pr Try.prog (Instr.box 25 list1) w_1 (.one .any) fun (list3_4 : Value) w_3 => (Pr Try.prog (Instr.alloc 28 true (.tuple #[])) w_3 (.one .any) fun (x4_6 : Value) w_5 => (QSub Try.prog (Instr.loadAt 2 n2_2) w_5 (.int .i64) fun (x5_7 : Int) => (Fc Try.prog 105 #[(.int .i64 x5_7), (.int .i64 (2 : Int)), (.func (.func 127) #[] #[list3_4, n2_2])] w_5 (.one .any) fun (x7_9 : Value) w_8 => (PrU Try.prog (Instr.storeAt 28 x4_6 x7_9) w_8 fun w_10 => (QSub Try.prog (Instr.loadAt 28 x4_6) w_10 .any fun (r_12 : Value) => K (r_12 : Value) w_10)))))))

theorem eq_impl_byDifference (n0 : Int) (list1 : Value) (w : World) (K : Value → World → Prop) :
    W Try.prog ty (fun _ _ _ _ => False) (bodyOf Try.f114) (fnPost Try.prog Try.f114.results.toList (.one .any) K) (frame0 [(.int .i64 n0), list1] 8) w = V_impl_byDifference n0 list1 w K := by
  kernel_rfl

theorem body_impl_byDifference : Try.f114.body = some (bodyOf Try.f114) := by kernel_rfl
theorem name_impl_byDifference : (Try.f114.name == "runtime.NumGoroutine") = false := by kernel_rfl

theorem walk_impl_byDifference (n0 : Int) (list1 : Value) {w : World} {K : Value → World → Prop} (h : V_impl_byDifference n0 list1 w K) : Fc Try.prog 114 #[(.int .i64 n0), list1] w (.one .any) K :=
  fn_ok follows (sound_none _) Try.func114 name_impl_byDifference body_impl_byDifference Try.ntmps114 [(.int .i64 n0), list1] (Eq.mpr (eq_impl_byDifference n0 list1 w K) h)

-- uses S7Sq
theorem c_impl_byDifference {n : Int} {a : Value} {l : List Int} {w : World} {K : Value → World → Prop} (h : SlI w a l) (n0 : 0 ≤ n) (n1 : n ≤ 17) (hK : ∀ w', Below w.heap.size w w' → K (colG n 2 (diffG l n)).val w') :
    Fc Try.prog F_impl_byDifference #[.int .i64 n, a] w (.one .any) K := by
  refine walk_impl_byDifference _ _ (box [.int .i64 n] rfl fun b1 w1 m1 => box [a] (by rw [slI_cells h]) fun b2 w2 m2 => c_alloc fun p w3 hb3 hv => ?_)
  have hb2 := m1.below.trans (m2.below.mono m1.below.size)
  have hb := hb2.trans (hb3.mono hb2.size)
  have cn : Cell w3 (ptr b1 0) (.int .i64 n) := ((row_all (cs := [_]) m1.at_).keep m2.below).keep hb3
  have ca : Cell w3 (ptr b2 0) a := (row_all (cs := [_]) m2.at_).keep hb3
  have hs2 := hb2.size; have hs3 := hb3.size; have hs := hb.size
  refine ld (k := .int .i64) yI cn (c_impl_made (fun e => diffG l n (pi e) (pj e)) n0 n1 (by omega) (fun e _ => diffG_bd _ _ _ _) (fun i j i0 i1 i2 w' K' hb' hk' => cv rfl ?_) fun w4 hb4 => ?_)
  · have hp := pair_enum i0 i1 (by omega)
    have := hk' w' (Below.refl _ _)
    rw [hp.1, hp.2] at this
    exact c_impl_byDifference_1 (ca.keep hb') (cn.keep hb') ((h.keep hb).keep hb') i0 (by omega) (by omega) (by omega) n0 (by omega) this
  · have hs4 := hb4.size
    exact c_ret (diff_ok l n0 n1) (hv.keep hb4) (by omega) fun w5 hb5 => hK w5 ((hb.trans (hb4.mono hs)).trans (hb5.mono hs2))

end Go.Proofs.Ytdkodhonaoecnaa
