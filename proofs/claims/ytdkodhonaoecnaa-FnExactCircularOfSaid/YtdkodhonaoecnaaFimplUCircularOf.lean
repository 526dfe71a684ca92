/- The reading of impl_CircularOf, and its contract. No condition. -/
import Derived.Test.YtdkodhonaoecnaaTy
import Derived.Test.YtdkodhonaoecnaaS7Circ
import Derived.Test.YtdkodhonaoecnaaFimplUareIn
import Derived.Test.YtdkodhonaoecnaaFimplUareSizes
import Derived.Test.YtdkodhonaoecnaaFimplUcircularOf
namespace Go.Proofs.Ytdkodhonaoecnaa
open Go Go.RowKit Eng Mem
set_option linter.unusedVariables false
set_option maxRecDepth 100000
def V_impl_CircularOf (n0 : Int) (k1 : Int) (list2 : Value) (w : World) (K : (Value × Int) → World → Prop) : Prop :=
  (Pr Try.prog (Instr.alloc 28 true (.tuple #[])) w (.one .any) fun (x6_2 : Value) w_1 => (Fc Try.prog 54 #[(.int .i64 n0), (.int .i64 k1)] w_1 (.one .bool) fun (x10_4 : Bool) w_3 => (((!x10_4) = true → (Pr Try.prog (Instr.build 28 #[]) w_3 (.one .any) fun (x25_6 : Value) w_5 => (PrU Try.prog (Instr.storeAt 28 x6_2 x25_6) w_5 fun w_7 => (QSub Try.prog (Instr.loadAt 28 x6_2) w_7 .any fun (r_9 : Value) => K ((r_9 : Value), (2 : Int)) w_7)))) ∧ ((!x10_4) = false → (((decide (n0 < (2 : Int))) = true → (Pr Try.prog (Instr.build 28 #[]) w_3 (.one .any) fun (x25_11 : Value) w_10 => (PrU Try.prog (Instr.storeAt 28 x6_2 x25_11) w_10 fun w_12 => (QSub Try.prog (Instr.loadAt 28 x6_2) w_12 .any fun (r_14 : Value) => K ((r_14 : Value), (2 : Int)) w_12)))) ∧ ((decide (n0 < (2 : Int))) = false → ((2 : Int) ≠ 0 ∧ (Fc Try.prog 55 #[list2, (.int .i64 (IntKind.i64.wrap (Int.tdiv n0 (2 : Int)))), (.int .i64 (0 : Int)), (.int .i64 (IntKind.i64.wrap (k1 - (1 : Int))))] w_3 (.one .bool) fun (x22_16 : Bool) w_15 => (((!x22_16) = true → (Pr Try.prog (Instr.build 28 #[]) w_15 (.one .any) fun (x25_18 : Value) w_17 => (PrU Try.prog (Instr.storeAt 28 x6_2 x25_18) w_17 fun w_19 => (QSub Try.prog (Instr.loadAt 28 x6_2) w_19 .any fun (r_21 : Value) => K ((r_21 : Value), (2 : Int)) w_19)))) ∧ ((!x22_16) = false → (Fc Try.prog 56 #[(.int .i64 n0), (.int .i64 k1), list2] w_15 (.one .any) fun (x29_23 : Value) w_22 => (PrU Try.prog (Instr.storeAt 28 x6_2 x29_23) w_22 fun w_24 => (QSub Try.prog (Instr.loadAt 28 x6_2) w_24 .any fun (r_26 : Value) => K ((r_26 : Value), (0 : Int)) w_24)))))))))))))

theorem eq_impl_CircularOf (n0 : Int) (k1 : Int) (list2 : Value) (w : World) (K : (Value × Int) → World → Prop) :
    W Try.prog ty (fun _ _ _ _ => False) (bodyOf Try.f19) (fnPost Try.prog Try.f19.results.toList (.two .any (.int .i64)) K) (frame0 [(.int .i64 n0), (.int .i64 k1), list2] 30) w = V_impl_CircularOf n0 k1 list2 w K := by
  kernel_rfl

theorem body_impl_CircularOf : Try.f19.body = some (bodyOf Try.f19) := by kernel_rfl
theorem name_impl_CircularOf : (Try.f19.name == "runtime.NumGoroutine") = false := by kernel_rfl

theorem walk_impl_CircularOf (n0 : Int) (k1 : Int) (list2 : Value) {w : World} {K : (Value × Int) → World → Prop} (h : V_impl_CircularOf n0 k1 list2 w K) : Fc Try.prog 19 #[(.int .i64 n0), (.int .i64 k1), list2] w (.two .any (.int .i64)) K :=
  fn_ok follows (sound_none _) Try.func19 name_impl_CircularOf body_impl_CircularOf Try.ntmps19 [(.int .i64 n0), (.int .i64 k1), list2] (Eq.mpr (eq_impl_CircularOf n0 k1 list2 w K) h)

-- uses S7Circ
theorem c_impl_CircularOf {n k : Int} {a : Value} {l : List Int} {w : World} {K : Value × Int → World → Prop} (_ : I64 n) (_ : I64 k) (ha : ArgI w a l)
    (hK : ∀ w', Below w.heap.size w w' → (circOf n k l).1.Ok → K ((circOf n k l).1.val, (circOf n k l).2) w') : Fc Try.prog F_impl_CircularOf #[.int .i64 n, .int .i64 k, a] w (.two .any (.int .i64)) K := by
  have no : ¬ CircIs n k l → ∀ w', Below w.heap.size w w' → K (col0.val, 2) w' := fun hn w' hb => by
    have := hK w' hb (circOf_ok _ _ _); unfold circOf at this; rwa [if_neg hn] at this
  refine walk_impl_CircularOf _ _ _ (c_alloc fun p w1 hb1 hv => c_impl_areSizes _ _ ?_)
  have hs1 := hb1.size
  refine ⟨fun h => c_none hv hs1 fun w' hb' => no (fun hh => notd_t h ⟨by have := hh.1; omega, hh.1.2, hh.2.1.1, hh.2.1.2⟩) _ (hb1.trans hb'), fun h1 => ?_⟩
  have h1 := notd_f h1
  refine ⟨fun h => c_none hv hs1 fun w' hb' => no (fun hh => by have := dec_t h; have := hh.1; omega) _ (hb1.trans hb'), fun h2 => ⟨by decide, ?_⟩⟩
  have h2 := dec_f h2
  have a1 := h1.1; have a2 := h1.2.1; have a3 := h1.2.2.1; have a4 := h1.2.2.2
  rw [show Int.tdiv n 2 = n / 2 from by rw [Int.tdiv_eq_ediv_of_nonneg (by omega)], wrap_small (n := n / 2) (by omega) (by omega), wrap_small (by omega) (by omega)]
  refine c_impl_areIn (ha.sl.keep hb1) fun w2 hb2 => ?_
  have hb := hb1.trans (hb2.mono hs1)
  have hs2 := hb2.size
  refine ⟨fun h => c_none (hv.keep hb2) (by omega) fun w' hb' => no (fun hh => notd_t h ⟨hh.2.2.1, hh.2.2.2⟩) _ (hb.trans hb'), fun h3 => ?_⟩
  have h3 := notd_f h3
  have hI : CircIs n k l := ⟨⟨by omega, a2⟩, ⟨a3, a4⟩, h3.1, h3.2⟩
  refine c_impl_circularOf (by omega) a2 ⟨by omega, by omega⟩ (ha.sl.keep hb) (by omega) (circG_bd (by omega) h3.1 h3.2 (by omega)) fun w3 hb3 => ?_
  have hs3 := hb3.size
  have hK' := fun w' hb => hK w' hb (circOf_ok _ _ _)
  unfold circOf at hK'
  rw [if_pos hI] at hK'
  exact c_ret hI.ok ((hv.keep hb2).keep hb3) (by omega) fun w5 hb5 => hK' w5 ((hb.trans (hb3.mono hb.size)).trans hb5)

end Go.Proofs.Ytdkodhonaoecnaa
