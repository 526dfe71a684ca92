/- The reading of spec_BySquares, and its contract. No condition. -/
import Derived.Test.YtdnofmicjgppnaaTy
import Derived.Test.YtdnofmicjgppnaaS7Sq
import Derived.Test.YtdnofmicjgppnaaFspecUl03Squares
namespace Go.Proofs.Ytdnofmicjgppnaa
open Go Go.RowKit Eng Mem
set_option linter.unusedVariables false
set_option maxRecDepth 100000
def V_spec_BySquares (p0 : Int) (w : World) (K : (Value × Int) → World → Prop) : Prop :=
  (Pr Try.prog (Instr.alloc 31 true (.tuple #[])) w (.one .any) fun (x2_2 : Value) w_1 => (((p0 != (5 : Int)) = true → (((p0 != (13 : Int)) = true → (((p0 != (17 : Int)) = true → (Pr Try.prog (Instr.build 31 #[]) w_1 (.one .any) fun (x14_4 : Value) w_3 => (PrU Try.prog (Instr.storeAt 31 x2_2 x14_4) w_3 fun w_5 => (QSub Try.prog (Instr.loadAt 31 x2_2) w_5 .any fun (r_7 : Value) => K ((r_7 : Value), (2 : Int)) w_5)))) ∧ ((p0 != (17 : Int)) = false → (Fc Try.prog 53 #[(.int .i64 p0)] w_1 (.one .any) fun (x16_9 : Value) w_8 => (PrU Try.prog (Instr.storeAt 31 x2_2 x16_9) w_8 fun w_10 => (QSub Try.prog (Instr.loadAt 31 x2_2) w_10 .any fun (r_12 : Value) => K ((r_12 : Value), (0 : Int)) w_10)))))) ∧ ((p0 != (13 : Int)) = false → (Fc Try.prog 53 #[(.int .i64 p0)] w_1 (.one .any) fun (x16_14 : Value) w_13 => (PrU Try.prog (Instr.storeAt 31 x2_2 x16_14) w_13 fun w_15 => (QSub Try.prog (Instr.loadAt 31 x2_2) w_15 .any fun (r_17 : Value) => K ((r_17 : Value), (0 : Int)) w_15)))))) ∧ ((p0 != (5 : Int)) = false → (Fc Try.prog 53 #[(.int .i64 p0)] w_1 (.one .any) fun (x16_19 : Value) w_18 => (PrU Try.prog (Instr.storeAt 31 x2_2 x16_19) w_18 fun w_20 => (QSub Try.prog (Instr.loadAt 31 x2_2) w_20 .any fun (r_22 : Value) => K ((r_22 : Value), (0 : Int)) w_20))))))

theorem eq_spec_BySquares (p0 : Int) (w : World) (K : (Value × Int) → World → Prop) :
    W Try.prog ty (fun _ _ _ _ => False) (bodyOf Try.f23) (fnPost Try.prog Try.f23.results.toList (.two .any (.int .i64)) K) (frame0 [(.int .i64 p0)] 17) w = V_spec_BySquares p0 w K := by
  kernel_rfl

theorem body_spec_BySquares : Try.f23.body = some (bodyOf Try.f23) := by kernel_rfl
theorem name_spec_BySquares : (Try.f23.name == "runtime.NumGoroutine") = false := by kernel_rfl

theorem walk_spec_BySquares (p0 : Int) {w : World} {K : (Value × Int) → World → Prop} (h : V_spec_BySquares p0 w K) : Fc Try.prog 23 #[(.int .i64 p0)] w (.two .any (.int .i64)) K :=
  fn_ok follows (sound_none _) Try.func23 name_spec_BySquares body_spec_BySquares Try.ntmps23 [(.int .i64 p0)] (Eq.mpr (eq_spec_BySquares p0 w K) h)

-- uses S7Sq
theorem c_spec_BySquares {p : Int} {w : World} {K : Value × Int → World → Prop} (_ : I64 p) (hK : ∀ w', Below w.heap.size w w' → (sqOf p).1.Ok → K ((sqOf p).1.val, (sqOf p).2) w') :
    Fc Try.prog F_spec_BySquares #[.int .i64 p] w (.two .any (.int .i64)) K := by
  have yes : (p = 5 ∨ p = 13 ∨ p = 17) → ∀ w', Below w.heap.size w w' → K ((colG p 2 (diffG (sqL p (p - 1).toNat) p)).val, 0) w' := fun hp w' hb => by
    have := hK w' hb (sqOf_ok p); unfold sqOf at this; rwa [if_pos hp] at this
  refine walk_spec_BySquares _ (c_alloc fun q w1 hb1 hv => ?_)
  have hs1 := hb1.size
  refine ⟨fun h5 => ⟨fun h13 => ⟨fun h17 => ?_, fun h17 => ?_⟩, fun h13 => ?_⟩, fun h5 => ?_⟩
  · have h5 := ne_t h5; have h13 := ne_t h13; have h17 := ne_t h17
    refine c_none hv hs1 fun w' hb' => ?_
    have := hK w' (hb1.trans hb') (sqOf_ok p)
    unfold sqOf at this
    rwa [if_neg (by omega)] at this
  · have hp : p = 5 ∨ p = 13 ∨ p = 17 := by have := ne_f h17; omega
    refine c_spec_l03Squares hp fun w2 hb2 => ?_
    have hs2 := hb2.size
    exact c_ret (diff_ok _ (by omega) (by omega)) (hv.keep hb2) (by omega) fun w3 hb3 => yes hp w3 ((hb1.trans (hb2.mono hs1)).trans hb3)
  · have hp : p = 5 ∨ p = 13 ∨ p = 17 := by have := ne_f h13; omega
    refine c_spec_l03Squares hp fun w2 hb2 => ?_
    have hs2 := hb2.size
    exact c_ret (diff_ok _ (by omega) (by omega)) (hv.keep hb2) (by omega) fun w3 hb3 => yes hp w3 ((hb1.trans (hb2.mono hs1)).trans hb3)
  · have hp : p = 5 ∨ p = 13 ∨ p = 17 := by have := ne_f h5; omega
    refine c_spec_l03Squares hp fun w2 hb2 => ?_
    have hs2 := hb2.size
    exact c_ret (diff_ok _ (by omega) (by omega)) (hv.keep hb2) (by omega) fun w3 hb3 => yes hp w3 ((hb1.trans (hb2.mono hs1)).trans hb3)

end Go.Proofs.Ytdnofmicjgppnaa
