/- The reading of impl_circularOf, and its contract. No condition. -/
import Derived.Test.YtdkodhonaoecnaaTy
import Derived.Test.YtdkodhonaoecnaaS7Circ
import Derived.Test.YtdkodhonaoecnaaFimplUcircularOfU1
import Derived.Test.YtdkodhonaoecnaaFimplUmade
namespace Go.Proofs.Ytdkodhonaoecnaa
open Go Go.RowKit Eng Mem
set_option linter.unusedVariables false
set_option maxRecDepth 100000
def V_impl_circularOf (n0 : Int) (k1 : Int) (list2 : Value) (w : World) (K : Value → World → Prop) : Prop :=
  (Pr Try.prog (Instr.box 2 (.int .i64 n0)) w (.one .any) fun (n3_2 : Value) w_1 => (Pr Try.prog (Instr.box 25 list2) w_1 (.one .any) fun (list5_4 : Value) w_3 => (Pr Try.prog (Instr.alloc 28 true (.tuple #[])) w_3 (.one .any) fun (x6_6 : Value) w_5 => (QSub Try.prog (Instr.loadAt 2 n3_2) w_5 (.int .i64) fun (x7_7 : Int) => (Fc Try.prog 105 #[(.int .i64 x7_7), (.int .i64 k1), (.func (.func 106) #[] #[list5_4, n3_2])] w_5 (.one .any) fun (x10_9 : Value) w_8 => (PrU Try.prog (Instr.storeAt 28 x6_6 x10_9) w_8 fun w_10 => (QSub Try.prog (Instr.loadAt 28 x6_6) w_10 .any fun (r_12 : Value) => K (r_12 : Value) w_10)))))))

theorem eq_impl_circularOf (n0 : Int) (k1 : Int) (list2 : Value) (w : World) (K : Value → World → Prop) :
    W Try.prog ty (fun _ _ _ _ => False) (bodyOf Try.f56) (fnPost Try.prog Try.f56.results.toList (.one .any) K) (frame0 [(.int .i64 n0), (.int .i64 k1), list2] 11) w = V_impl_circularOf n0 k1 list2 w K := by
  kernel_rfl

theorem body_impl_circularOf : Try.f56.body = some (bodyOf Try.f56) := by kernel_rfl
theorem name_impl_circularOf : (Try.f56.name == "runtime.NumGoroutine") = false := by kernel_rfl

theorem walk_impl_circularOf (n0 : Int) (k1 : Int) (list2 : Value) {w : World} {K : Value → World → Prop} (h : V_impl_circularOf n0 k1 list2 w K) : Fc Try.prog 56 #[(.int .i64 n0), (.int .i64 k1), list2] w (.one .any) K :=
  fn_ok follows (sound_none _) Try.func56 name_impl_circularOf body_impl_circularOf Try.ntmps56 [(.int .i64 n0), (.int .i64 k1), list2] (Eq.mpr (eq_impl_circularOf n0 k1 list2 w K) h)

-- uses S7Circ
theorem c_impl_circularOf {n k : Int} {a : Value} {l : List Int} {w : World} {K : Value → World → Prop} (n0 : 0 ≤ n) (n1 : n ≤ 17) (hk : I64 k) (h : SlI w a l) (hl : n / 2 ≤ (l.length : Int)) (hg : ∀ i j : Int, 0 ≤ i → i < j → j < n → 0 ≤ circG l n i j ∧ circG l n i j < 256)
    (hK : ∀ w', Below w.heap.size w w' → K (colG n k (circG l n)).val w') : Fc Try.prog F_impl_circularOf #[.int .i64 n, .int .i64 k, a] w (.one .any) K := by
  have hok : (colG n k (circG l n)).Ok := colG_ok n0 n1 hk hg
  refine walk_impl_circularOf _ _ _ (box [.int .i64 n] rfl fun b1 w1 m1 => box [a] (by rw [slI_cells h]) fun b2 w2 m2 => c_alloc fun p w3 hb3 hv => ?_)
  have hb2 := m1.below.trans (m2.below.mono m1.below.size)
  have hb := hb2.trans (hb3.mono hb2.size)
  have cn : Cell w3 (ptr b1 0) (.int .i64 n) := ((row_all (cs := [_]) m1.at_).keep m2.below).keep hb3
  have ca : Cell w3 (ptr b2 0) a := (row_all (cs := [_]) m2.at_).keep hb3
  have hs2 := hb2.size; have hs3 := hb3.size; have hs := hb.size
  refine ld (k := .int .i64) yI cn (c_impl_made (fun e => circG l n (pi e) (pj e)) n0 n1 hk (fun e he => ?_) (fun i j i0 i1 i2 w' K' hb' hk' => cv rfl ?_) fun w4 hb4 => ?_)
  · have := pair_lt n0 n1 he
    exact hg _ _ this.1 this.2.1 this.2.2
  · have hp := pair_enum i0 i1 (by omega)
    simp only [hp.1, hp.2] at hk'
    exact c_impl_circularOf_1 (ca.keep hb') (cn.keep hb') ((h.keep hb).keep hb') i0 i1 i2 n1 hl hk'
  · have hs4 := hb4.size
    exact c_ret hok (hv.keep hb4) (by omega) fun w5 hb5 => hK w5 ((hb.trans (hb4.mono hs)).trans (hb5.mono hs2))

end Go.Proofs.Ytdkodhonaoecnaa
