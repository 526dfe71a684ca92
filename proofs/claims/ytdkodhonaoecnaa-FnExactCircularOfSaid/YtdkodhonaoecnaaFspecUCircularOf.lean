/- The reading of spec_CircularOf, and its contract. No condition. -/
import Derived.Test.YtdkodhonaoecnaaTy
import Derived.Test.YtdkodhonaoecnaaS7Circ
import Derived.Test.YtdkodhonaoecnaaFspecUl01All
import Derived.Test.YtdkodhonaoecnaaFspecUl01In
import Derived.Test.YtdkodhonaoecnaaFspecUl03Circular
namespace Go.Proofs.Ytdkodhonaoecnaa
open Go Go.RowKit Eng Mem
set_option linter.unusedVariables false
set_option maxRecDepth 100000
def V_spec_CircularOf (n0 : Int) (k1 : Int) (list2 : Value) (w : World) (K : (Value × Int) → World → Prop) : Prop :=
  (Pr Try.prog (Instr.alloc 28 true (.tuple #[])) w (.one .any) fun (x6_2 : Value) w_1 => (Fc Try.prog 45 #[(.int .i64 n0), (.int .i64 (2 : Int)), (.int .i64 (17 : Int))] w_1 (.one .bool) fun (x9_4 : Bool) w_3 => (((!x9_4) = true → (Pr Try.prog (Instr.build 28 #[]) w_3 (.one .any) fun (x29_6 : Value) w_5 => (PrU Try.prog (Instr.storeAt 28 x6_2 x29_6) w_5 fun w_7 => (QSub Try.prog (Instr.loadAt 28 x6_2) w_7 .any fun (r_9 : Value) => K ((r_9 : Value), (2 : Int)) w_7)))) ∧ ((!x9_4) = false → (Fc Try.prog 45 #[(.int .i64 k1), (.int .i64 (1 : Int)), (.int .i64 (4 : Int))] w_3 (.one .bool) fun (x13_11 : Bool) w_10 => (((!x13_11) = true → (Pr Try.prog (Instr.build 28 #[]) w_10 (.one .any) fun (x29_13 : Value) w_12 => (PrU Try.prog (Instr.storeAt 28 x6_2 x29_13) w_12 fun w_14 => (QSub Try.prog (Instr.loadAt 28 x6_2) w_14 .any fun (r_16 : Value) => K ((r_16 : Value), (2 : Int)) w_14)))) ∧ ((!x13_11) = false → (QAll Try.prog (Builtin.len_ #[25] 3 #[list2]) (.int .i64) fun (x18_17 : Int) => ((2 : Int) ≠ 0 ∧ (((x18_17 != (IntKind.i64.wrap (Int.tdiv n0 (2 : Int)))) = true → (Pr Try.prog (Instr.build 28 #[]) w_10 (.one .any) fun (x29_19 : Value) w_18 => (PrU Try.prog (Instr.storeAt 28 x6_2 x29_19) w_18 fun w_20 => (QSub Try.prog (Instr.loadAt 28 x6_2) w_20 .any fun (r_22 : Value) => K ((r_22 : Value), (2 : Int)) w_20)))) ∧ ((x18_17 != (IntKind.i64.wrap (Int.tdiv n0 (2 : Int)))) = false → (Fc Try.prog 52 #[list2, (.int .i64 k1)] w_10 (.one .bool) fun (x26_24 : Bool) w_23 => (((!x26_24) = true → (Pr Try.prog (Instr.build 28 #[]) w_23 (.one .any) fun (x29_26 : Value) w_25 => (PrU Try.prog (Instr.storeAt 28 x6_2 x29_26) w_25 fun w_27 => (QSub Try.prog (Instr.loadAt 28 x6_2) w_27 .any fun (r_29 : Value) => K ((r_29 : Value), (2 : Int)) w_27)))) ∧ ((!x26_24) = false → (Fc Try.prog 53 #[(.int .i64 n0), (.int .i64 k1), list2] w_23 (.one .any) fun (x33_31 : Value) w_30 => (PrU Try.prog (Instr.storeAt 28 x6_2 x33_31) w_30 fun w_32 => (QSub Try.prog (Instr.loadAt 28 x6_2) w_32 .any fun (r_34 : Value) => K ((r_34 : Value), (0 : Int)) w_32)))))))))))))))))

theorem eq_spec_CircularOf (n0 : Int) (k1 : Int) (list2 : Value) (w : World) (K : (Value × Int) → World → Prop) :
    W Try.prog ty (fun _ _ _ _ => False) (bodyOf Try.f17) (fnPost Try.prog Try.f17.results.toList (.two .any (.int .i64)) K) (frame0 [(.int .i64 n0), (.int .i64 k1), list2] 34) w = V_spec_CircularOf n0 k1 list2 w K := by
  kernel_rfl

theorem body_spec_CircularOf : Try.f17.body = some (bodyOf Try.f17) := by kernel_rfl
theorem name_spec_CircularOf : (Try.f17.name == "runtime.NumGoroutine") = false := by kernel_rfl

theorem walk_spec_CircularOf (n0 : Int) (k1 : Int) (list2 : Value) {w : World} {K : (Value × Int) → World → Prop} (h : V_spec_CircularOf n0 k1 list2 w K) : Fc Try.prog 17 #[(.int .i64 n0), (.int .i64 k1), list2] w (.two .any (.int .i64)) K :=
  fn_ok follows (sound_none _) Try.func17 name_spec_CircularOf body_spec_CircularOf Try.ntmps17 [(.int .i64 n0), (.int .i64 k1), list2] (Eq.mpr (eq_spec_CircularOf n0 k1 list2 w K) h)

-- uses S7Circ
theorem c_spec_CircularOf {n k : Int} {a : Value} {l : List Int} {w : World} {K : Value × Int → World → Prop} (_ : I64 n) (_ : I64 k) (ha : ArgI w a l)
    (hK : ∀ w', Below w.heap.size w w' → (circOf n k l).1.Ok → K ((circOf n k l).1.val, (circOf n k l).2) w') : Fc Try.prog F_spec_CircularOf #[.int .i64 n, .int .i64 k, a] w (.two .any (.int .i64)) K := by
  have no : ¬ CircIs n k l → ∀ w', Below w.heap.size w w' → K (col0.val, 2) w' := fun hn w' hb => by
    have := hK w' hb (circOf_ok _ _ _); unfold circOf at this; rwa [if_neg hn] at this
  refine walk_spec_CircularOf _ _ _ (c_alloc fun p w1 hb1 hv => c_spec_l01In _ _ _ ?_)
  have hs1 := hb1.size
  refine ⟨fun h => c_none hv hs1 fun w' hb' => no (fun hh => notd_t h hh.1) _ (hb1.trans hb'), fun h1 => c_spec_l01In _ _ _ ?_⟩
  have h1 := notd_f h1
  refine ⟨fun h => c_none hv hs1 fun w' hb' => no (fun hh => notd_t h hh.2.1) _ (hb1.trans hb'), fun h2 => lenI (ha.sl.keep hb1) ⟨by decide, ?_⟩⟩
  have h2 := notd_f h2
  rw [show Int.tdiv n 2 = n / 2 from by rw [Int.tdiv_eq_ediv_of_nonneg (by omega)], wrap_small (n := n / 2) (by omega) (by omega)]
  refine ⟨fun h => c_none hv hs1 fun w' hb' => no (fun hh => ne_t h hh.2.2.1) _ (hb1.trans hb'), fun h3 => c_spec_l01All (ha.sl.keep hb1) (by omega) (by omega) ?_⟩
  have h3 := ne_f h3
  refine ⟨fun h => c_none hv hs1 fun w' hb' => no (fun hh => notd_t h hh.2.2.2) _ (hb1.trans hb'), fun h4 => ?_⟩
  have h4 := notd_f h4
  have hI : CircIs n k l := ⟨h1, h2, h3, h4⟩
  refine c_spec_l03Circular (by omega) (by omega) ⟨by omega, by omega⟩ (ha.sl.keep hb1) h3 (fun x hx => by have := h4 x hx; omega) hI.ok fun w3 hb3 => ?_
  have hs3 := hb3.size
  have hK' := fun w' hb => hK w' hb (circOf_ok _ _ _)
  unfold circOf at hK'
  rw [if_pos hI] at hK'
  exact c_ret hI.ok (hv.keep hb3) (by omega) fun w5 hb5 => hK' w5 ((hb1.trans (hb3.mono hs1)).trans hb5)

end Go.Proofs.Ytdkodhonaoecnaa
