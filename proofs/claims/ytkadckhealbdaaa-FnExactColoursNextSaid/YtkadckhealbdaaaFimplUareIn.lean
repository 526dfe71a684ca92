/- The reading of impl_areIn, and its contract. No condition. -/
import Derived.Test.YtkadckhealbdaaaTy
import Derived.Test.YtkadckhealbdaaaS3Part
import Derived.Test.YtkadckhealbdaaaFimplUareInU1
import Derived.Test.YtkadckhealbdaaaFimplUsizeS
import Derived.Test.YtkadckhealbdaaaFslicesUContainsFuncUint64Uint64
namespace Go.Proofs.Ytkadckhealbdaaa
open Go Go.RowKit Eng Mem
set_option linter.unusedVariables false
set_option maxRecDepth 100000
def V_impl_areIn (list0 : Value) (many1 : Int) (low2 : Int) (high3 : Int) (w : World) (K : Bool → World → Prop) : Prop :=
  (Pr Try.prog (Instr.box 2 (.int .i64 low2)) w (.one .any) fun (low6_2 : Value) w_1 => (Pr Try.prog (Instr.box 2 (.int .i64 high3)) w_1 (.one .any) fun (high7_4 : Value) w_3 => (Fc Try.prog 58 #[list0] w_3 (.one (.int .i64)) fun (x10_6 : Int) w_5 => (((x10_6 == many1) = true → (Fc Try.prog 122 #[list0, (.func (.func 123) #[] #[low6_2, high7_4])] w_5 (.one .bool) fun (x16_8 : Bool) w_7 => K (!x16_8) w_7)) ∧ ((x10_6 == many1) = false → K false w_5)))))

theorem eq_impl_areIn (list0 : Value) (many1 : Int) (low2 : Int) (high3 : Int) (w : World) (K : Bool → World → Prop) :
    W Try.prog ty (fun _ _ _ _ => False) (bodyOf Try.f102) (fnPost Try.prog Try.f102.results.toList (.one .bool) K) (frame0 [list0, (.int .i64 many1), (.int .i64 low2), (.int .i64 high3)] 19) w = V_impl_areIn list0 many1 low2 high3 w K := by
  kernel_rfl

theorem body_impl_areIn : Try.f102.body = some (bodyOf Try.f102) := by kernel_rfl
theorem name_impl_areIn : (Try.f102.name == "runtime.NumGoroutine") = false := by kernel_rfl

theorem walk_impl_areIn (list0 : Value) (many1 : Int) (low2 : Int) (high3 : Int) {w : World} {K : Bool → World → Prop} (h : V_impl_areIn list0 many1 low2 high3 w K) : Fc Try.prog 102 #[list0, (.int .i64 many1), (.int .i64 low2), (.int .i64 high3)] w (.one .bool) K :=
  fn_ok follows (sound_none _) Try.func102 name_impl_areIn body_impl_areIn Try.ntmps102 [list0, (.int .i64 many1), (.int .i64 low2), (.int .i64 high3)] (Eq.mpr (eq_impl_areIn list0 many1 low2 high3 w K) h)

-- uses S3Part
theorem c_impl_areIn {a : Value} {l : List Int} {many lo hi : Int} {w : World} {K : Bool → World → Prop} (h : SlI w a l) (hK : ∀ w', Below w.heap.size w w' → K (decide ((l.length : Int) = many ∧ AllIn l lo hi)) w') :
    Fc Try.prog F_impl_areIn #[a, .int .i64 many, .int .i64 lo, .int .i64 hi] w (.one .bool) K := by
  refine walk_impl_areIn _ _ _ _ (box [.int .i64 lo] rfl fun b1 w1 n1 => box [.int .i64 hi] rfl fun b2 w2 n2 => ?_)
  have hb := n1.below.trans (n2.below.mono n1.below.size)
  have c1 : Cell w2 (ptr b1 0) (.int .i64 lo) := (row_all (cs := [_]) n1.at_).keep n2.below
  have c2 : Cell w2 (ptr b2 0) (.int .i64 hi) := row_all (cs := [_]) n2.at_
  refine c_impl_sizeS (h.keep hb) ⟨fun he => ?_, fun hn => ?_⟩
  · have he := eq_t he
    refine c_slices_ContainsFunc_int64_int64 (fun x => !decide (lo ≤ x ∧ x ≤ hi)) (h.keep hb) (fun x hx w' K' hb' hk => cv rfl ?_) fun w' hb' => ?_
    · exact c_impl_areIn_1 (c1.keep hb') (c2.keep hb') (hk _ (Below.refl _ _))
    · have := hK w' (hb.trans (hb'.mono hb.size))
      have e : decide ((l.length : Int) = many ∧ AllIn l lo hi) = !(l.any fun x => !decide (lo ≤ x ∧ x ≤ hi)) := by
        rw [Bool.eq_iff_iff]
        simp [he, AllIn]
      rw [e] at this
      exact this
  · have := hK w2 hb
    rwa [decide_eq_false (fun hh => eq_f hn hh.1)] at this

end Go.Proofs.Ytkadckhealbdaaa
