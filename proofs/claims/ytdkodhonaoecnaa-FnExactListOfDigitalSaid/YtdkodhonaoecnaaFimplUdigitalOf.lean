/- The reading of impl_digitalOf, and its contract. No condition. -/
import Derived.Test.YtdkodhonaoecnaaTy
import Derived.Test.YtdkodhonaoecnaaS6Tri
import Derived.Test.YtdkodhonaoecnaaFimplUdigitalOfU1
import Derived.Test.YtdkodhonaoecnaaFimplUmade
namespace Go.Proofs.Ytdkodhonaoecnaa
open Go Go.RowKit Eng Mem
set_option linter.unusedVariables false
set_option maxRecDepth 100000
def V_impl_digitalOf (d0 : Int) (k1 : Int) (list2 : Value) (w : World) (K : Value → World → Prop) : Prop :=
  (Pr Try.prog (Instr.box 25 list2) w (.one .any) fun (list5_2 : Value) w_1 => (Pr Try.prog (Instr.alloc 28 true (.tuple #[])) w_1 (.one .any) fun (x6_4 : Value) w_3 => (0 ≤ d0 ∧ (Fc Try.prog 105 #[(.int .i64 (IntKind.i64.wrap ((1 : Int) * 2 ^ min (Int.toNat d0) 64))), (.int .i64 k1), (.func (.func 123) #[] #[list5_2])] w_3 (.one .any) fun (x11_6 : Value) w_5 => (PrU Try.prog (Instr.storeAt 28 x6_4 x11_6) w_5 fun w_7 => (QSub Try.prog (Instr.loadAt 28 x6_4) w_7 .any fun (r_9 : Value) => K (r_9 : Value) w_7))))))

theorem eq_impl_digitalOf (d0 : Int) (k1 : Int) (list2 : Value) (w : World) (K : Value → World → Prop) :
    W Try.prog ty (fun _ _ _ _ => False) (bodyOf Try.f97) (fnPost Try.prog Try.f97.results.toList (.one .any) K) (frame0 [(.int .i64 d0), (.int .i64 k1), list2] 12) w = V_impl_digitalOf d0 k1 list2 w K := by
  kernel_rfl

theorem body_impl_digitalOf : Try.f97.body = some (bodyOf Try.f97) := by kernel_rfl
theorem name_impl_digitalOf : (Try.f97.name == "runtime.NumGoroutine") = false := by kernel_rfl

theorem walk_impl_digitalOf (d0 : Int) (k1 : Int) (list2 : Value) {w : World} {K : Value → World → Prop} (h : V_impl_digitalOf d0 k1 list2 w K) : Fc Try.prog 97 #[(.int .i64 d0), (.int .i64 k1), list2] w (.one .any) K :=
  fn_ok follows (sound_none _) Try.func97 name_impl_digitalOf body_impl_digitalOf Try.ntmps97 [(.int .i64 d0), (.int .i64 k1), list2] (Eq.mpr (eq_impl_digitalOf d0 k1 list2 w K) h)

-- uses S6Tri
theorem c_impl_digitalOf {d : Nat} {k : Int} {a : Value} {l : List Int} {w : World} {K : Value → World → Prop} (d1 : d ≤ 4) (hk : I64 k) (ha : SlI w a l) (hl : (l.length : Int) = 2 ^ d - 1)
    (hg : ∀ i j : Int, 0 ≤ i → i < j → j < 2 ^ d → 0 ≤ l.getD (xr i j - 1).toNat 0 ∧ l.getD (xr i j - 1).toNat 0 < 256) (hok : (colG (2 ^ d) k fun i j => l.getD (xr i j - 1).toNat 0).Ok)
    (hK : ∀ w', Below w.heap.size w w' → K (colG (2 ^ d) k fun i j => l.getD (xr i j - 1).toNat 0).val w') :
    Fc Try.prog F_impl_digitalOf #[.int .i64 d, .int .i64 k, a] w (.one .any) K := by
  have n1 : (1 : Int) ≤ 2 ^ d ∧ (2 : Int) ^ d ≤ 16 := by
    have : d = 0 ∨ d = 1 ∨ d = 2 ∨ d = 3 ∨ d = 4 := by omega
    rcases this with h | h | h | h | h <;> subst h <;> simp
  refine walk_impl_digitalOf _ _ _ (box [a] (by rw [slI_cells ha]) fun b w1 n1' => c_alloc fun p w2 hb2 hv => ⟨by omega, ?_⟩)
  have hb := n1'.below.trans (hb2.mono n1'.below.size)
  have hs := hb.size; have hs1 := n1'.below.size; have hs2 := hb2.size
  have c2 : Cell w2 (ptr b 0) a := (row_all (cs := [a]) n1'.at_).keep hb2
  have he : IntKind.i64.wrap (1 * 2 ^ min (Int.toNat (d : Int)) 64) = 2 ^ d := by
    rw [Int.toNat_natCast, Nat.min_eq_left (by omega), Int.one_mul, wrap_small (by omega) (by omega)]
  rw [he]
  refine c_impl_made (fun e => l.getD (xr (pi e) (pj e) - 1).toNat 0) (by omega) (by omega) hk (fun e he => ?_) (fun i j i0 i1 i2 w' K' hb' hk' => cv rfl ?_) fun w4 hb4 => ?_
  · have := pair_lt (n := 2 ^ d) (by omega) (by omega) he
    exact hg _ _ this.1 this.2.1 this.2.2
  · have hx := xr_bd i0 i1 i2
    have hp := pair_enum i0 i1 (by omega)
    refine c_impl_digitalOf_1 (c2.keep hb') ((ha.keep hb).keep hb') i0 i1 (by omega) (by omega) ?_
    have := hk' w' (Below.refl _ _)
    rwa [hp.1, hp.2] at this
  · have hs4 := hb4.size
    exact c_ret hok (hv.keep hb4) (by omega) fun w5 hb5 => hK w5 ((hb.trans (hb4.mono hs)).trans (hb5.mono hs1))

end Go.Proofs.Ytdkodhonaoecnaa
