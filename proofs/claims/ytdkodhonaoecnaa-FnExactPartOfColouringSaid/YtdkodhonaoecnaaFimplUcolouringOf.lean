/- The reading of impl_colouringOf, and its contract. No condition. -/
import Derived.Test.YtdkodhonaoecnaaTy
import Derived.Test.YtdkodhonaoecnaaS6Tri
import Derived.Test.YtdkodhonaoecnaaFimplUcolouringOfU1
import Derived.Test.YtdkodhonaoecnaaFimplUmade
import Derived.Test.YtdkodhonaoecnaaFimplUsizeS
namespace Go.Proofs.Ytdkodhonaoecnaa
open Go Go.RowKit Eng Mem
set_option linter.unusedVariables false
set_option maxRecDepth 100000
def V_impl_colouringOf (k0 : Int) (part1 : Value) (w : World) (K : Value → World → Prop) : Prop :=
  (Pr Try.prog (Instr.box 25 part1) w (.one .any) fun (part3_2 : Value) w_1 => (Pr Try.prog (Instr.alloc 28 true (.tuple #[])) w_1 (.one .any) fun (x4_4 : Value) w_3 => (QSub Try.prog (Instr.loadAt 25 part3_2) w_3 .any fun (x5_5 : Value) => (Fc Try.prog 63 #[x5_5] w_3 (.one (.int .i64)) fun (x6_7 : Int) w_6 => (Fc Try.prog 105 #[(.int .i64 (IntKind.i64.wrap (x6_7 + (1 : Int)))), (.int .i64 k0), (.func (.func 122) #[] #[part3_2])] w_6 (.one .any) fun (x10_9 : Value) w_8 => (PrU Try.prog (Instr.storeAt 28 x4_4 x10_9) w_8 fun w_10 => (QSub Try.prog (Instr.loadAt 28 x4_4) w_10 .any fun (r_12 : Value) => K (r_12 : Value) w_10)))))))

theorem eq_impl_colouringOf (k0 : Int) (part1 : Value) (w : World) (K : Value → World → Prop) :
    W Try.prog ty (fun _ _ _ _ => False) (bodyOf Try.f95) (fnPost Try.prog Try.f95.results.toList (.one .any) K) (frame0 [(.int .i64 k0), part1] 11) w = V_impl_colouringOf k0 part1 w K := by
  kernel_rfl

theorem body_impl_colouringOf : Try.f95.body = some (bodyOf Try.f95) := by kernel_rfl
theorem name_impl_colouringOf : (Try.f95.name == "runtime.NumGoroutine") = false := by kernel_rfl

theorem walk_impl_colouringOf (k0 : Int) (part1 : Value) {w : World} {K : Value → World → Prop} (h : V_impl_colouringOf k0 part1 w K) : Fc Try.prog 95 #[(.int .i64 k0), part1] w (.one .any) K :=
  fn_ok follows (sound_none _) Try.func95 name_impl_colouringOf body_impl_colouringOf Try.ntmps95 [(.int .i64 k0), part1] (Eq.mpr (eq_impl_colouringOf k0 part1 w K) h)

-- uses S6Tri
theorem c_impl_colouringOf {k : Int} {a : Value} {l : List Int} {w : World} {K : Value → World → Prop} (hk : I64 k) (ha : SlI w a l) (hl : l.length ≤ 16) (hin : AllIn l 0 255) (hok : (colG (l.length + 1) k fun i j => l.getD (j - i - 1).toNat 0).Ok)
    (hK : ∀ w', Below w.heap.size w w' → K (colG (l.length + 1) k fun i j => l.getD (j - i - 1).toNat 0).val w') :
    Fc Try.prog F_impl_colouringOf #[.int .i64 k, a] w (.one .any) K := by
  refine walk_impl_colouringOf _ _ (box [a] (by rw [slI_cells ha]) fun b w1 n1' => c_alloc fun p w2 hb2 hv => ?_)
  have hb := n1'.below.trans (hb2.mono n1'.below.size)
  have hs := hb.size; have hs1 := n1'.below.size; have hs2 := hb2.size
  have c2 : Cell w2 (ptr b 0) a := (row_all (cs := [a]) n1'.at_).keep hb2
  refine ld (k := .any) y1SI c2 (c_impl_sizeS (ha.keep hb) ?_)
  rw [wrap_small (by omega) (by omega)]
  refine c_impl_made (fun e => l.getD (pj e - pi e - 1).toNat 0) (by omega) (by omega) hk (fun e he => ?_) (fun i j i0 i1 i2 w' K' hb' hk' => cv rfl ?_) fun w4 hb4 => ?_
  · have := pair_lt (n := l.length + 1) (by omega) (by omega) he
    have := hin.get (i := (pj e - pi e - 1).toNat) (by omega)
    omega
  · have hp := pair_enum i0 i1 (by omega)
    refine c_impl_colouringOf_1 (c2.keep hb') ((ha.keep hb).keep hb') i0 i1 (by omega) (by omega) ?_
    have := hk' w' (Below.refl _ _)
    rwa [hp.1, hp.2] at this
  · have hs4 := hb4.size
    exact c_ret hok (hv.keep hb4) (by omega) fun w5 hb5 => hK w5 ((hb.trans (hb4.mono hs)).trans (hb5.mono hs1))

end Go.Proofs.Ytdkodhonaoecnaa
