/- The reading of spec_ColouringOfPart, and its contract. No condition. -/
import Derived.Test.YtdnofmicjgppnaaTy
import Derived.Test.YtdnofmicjgppnaaS7Dig
import Derived.Test.YtdnofmicjgppnaaFspecUl07Code
import Derived.Test.YtdnofmicjgppnaaFspecUl07Colouring
namespace Go.Proofs.Ytdnofmicjgppnaa
open Go Go.RowKit Eng Mem
set_option linter.unusedVariables false
set_option maxRecDepth 100000
def V_spec_ColouringOfPart (k0 : Int) (part1 : Value) (w : World) (K : (Value × Int) → World → Prop) : Prop :=
  (Pr Try.prog (Instr.alloc 31 true (.tuple #[])) w (.one .any) fun (x4_2 : Value) w_1 => (Fc Try.prog 42 #[(.int .i64 k0), part1, (.int .i64 (0 : Int))] w_1 (.one (.int .i64)) fun (x8_4 : Int) w_3 => (((x8_4 != (0 : Int)) = true → (Pr Try.prog (Instr.build 31 #[]) w_3 (.one .any) fun (x15_6 : Value) w_5 => (PrU Try.prog (Instr.storeAt 31 x4_2 x15_6) w_5 fun w_7 => (QSub Try.prog (Instr.loadAt 31 x4_2) w_7 .any fun (r_9 : Value) => K ((r_9 : Value), (2 : Int)) w_7)))) ∧ ((x8_4 != (0 : Int)) = false → (QAll Try.prog (Builtin.len_ #[22] 3 #[part1]) (.int .i64) fun (x12_10 : Int) => (((decide (x12_10 > (16 : Int))) = true → (Pr Try.prog (Instr.build 31 #[]) w_3 (.one .any) fun (x15_12 : Value) w_11 => (PrU Try.prog (Instr.storeAt 31 x4_2 x15_12) w_11 fun w_13 => (QSub Try.prog (Instr.loadAt 31 x4_2) w_13 .any fun (r_15 : Value) => K ((r_15 : Value), (2 : Int)) w_13)))) ∧ ((decide (x12_10 > (16 : Int))) = false → (Fc Try.prog 74 #[(.int .i64 k0), part1] w_3 (.one .any) fun (x18_17 : Value) w_16 => (PrU Try.prog (Instr.storeAt 31 x4_2 x18_17) w_16 fun w_18 => (QSub Try.prog (Instr.loadAt 31 x4_2) w_18 .any fun (r_20 : Value) => K ((r_20 : Value), (0 : Int)) w_18))))))))))

theorem eq_spec_ColouringOfPart (k0 : Int) (part1 : Value) (w : World) (K : (Value × Int) → World → Prop) :
    W Try.prog ty (fun _ _ _ _ => False) (bodyOf Try.f38) (fnPost Try.prog Try.f38.results.toList (.two .any (.int .i64)) K) (frame0 [(.int .i64 k0), part1] 19) w = V_spec_ColouringOfPart k0 part1 w K := by
  kernel_rfl

theorem body_spec_ColouringOfPart : Try.f38.body = some (bodyOf Try.f38) := by kernel_rfl
theorem name_spec_ColouringOfPart : (Try.f38.name == "runtime.NumGoroutine") = false := by kernel_rfl

theorem walk_spec_ColouringOfPart (k0 : Int) (part1 : Value) {w : World} {K : (Value × Int) → World → Prop} (h : V_spec_ColouringOfPart k0 part1 w K) : Fc Try.prog 38 #[(.int .i64 k0), part1] w (.two .any (.int .i64)) K :=
  fn_ok follows (sound_none _) Try.func38 name_spec_ColouringOfPart body_spec_ColouringOfPart Try.ntmps38 [(.int .i64 k0), part1] (Eq.mpr (eq_spec_ColouringOfPart k0 part1 w K) h)

-- uses S7Dig
theorem c_spec_ColouringOfPart {k : Int} {a : Value} {l : List Int} {w : World} {K : Value × Int → World → Prop} (hk : I64 k) (ha : ArgI w a l)
    (hK : ∀ w', Below w.heap.size w w' → (partOf k l).1.Ok → K ((partOf k l).1.val, (partOf k l).2) w') : Fc Try.prog F_spec_ColouringOfPart #[.int .i64 k, a] w (.two .any (.int .i64)) K := by
  have no : ¬ (IsPart k l ∧ l.length ≤ 16) → ∀ w', Below w.heap.size w w' → K (col0.val, 2) w' := fun hn w' hb => by
    have := hK w' hb (partOf_ok _ _); unfold partOf at this; rwa [if_neg hn] at this
  refine walk_spec_ColouringOfPart _ _ (c_alloc fun p w1 hb1 hv => c_spec_l07Code (ha.sl.keep hb1) ?_)
  have hs1 := hb1.size
  by_cases h1 : IsPart k l
  · rw [if_pos ⟨h1, by omega, by omega⟩]
    refine ⟨fun h => absurd rfl (ne_t h), fun _ => lenI (ha.sl.keep hb1) ⟨fun h => c_none hv (by omega) fun w' hb' => no (fun hh => by have := dec_t h; omega) _ (hb1.trans hb'), fun h2 => ?_⟩⟩
    have h2 := dec_f h2
    have hl : l.length ≤ 16 := by omega
    refine c_spec_l07Colouring hk (ha.sl.keep hb1) hl (part_in h1) (part_ok h1 hl) fun w3 hb3 => ?_
    have hs3 := hb3.size
    have hK' := fun w' hb => hK w' hb (partOf_ok _ _)
    unfold partOf at hK'
    rw [if_pos ⟨h1, hl⟩] at hK'
    exact c_ret (part_ok h1 hl) (hv.keep hb3) (by omega) fun w5 hb5 => hK' w5 ((hb1.trans (hb3.mono hs1)).trans hb5)
  · rw [if_neg (fun hh => h1 hh.1)]
    exact ⟨fun _ => c_none hv hs1 fun w' hb' => no (fun hh => h1 hh.1) _ (hb1.trans hb'), fun h => absurd (ne_f h) (by omega)⟩

end Go.Proofs.Ytdnofmicjgppnaa
