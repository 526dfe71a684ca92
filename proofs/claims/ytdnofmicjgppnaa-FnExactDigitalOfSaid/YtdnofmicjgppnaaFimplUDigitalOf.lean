/- The reading of impl_DigitalOf, and its contract. No condition. -/
import Derived.Test.YtdnofmicjgppnaaTy
import Derived.Test.YtdnofmicjgppnaaS7Dig
import Derived.Test.YtdnofmicjgppnaaFimplUareIn
import Derived.Test.YtdnofmicjgppnaaFimplUdigitalOf
import Derived.Test.YtdnofmicjgppnaaFimplUin
namespace Go.Proofs.Ytdnofmicjgppnaa
open Go Go.RowKit Eng Mem
set_option linter.unusedVariables false
set_option maxRecDepth 100000
def V_impl_DigitalOf (d0 : Int) (k1 : Int) (list2 : Value) (w : World) (K : (Value × Int) → World → Prop) : Prop :=
  (Pr Try.prog (Instr.alloc 31 true (.tuple #[])) w (.one .any) fun (x6_2 : Value) w_1 => (Fc Try.prog 45 #[(.int .i64 d0), (.int .i64 (1 : Int)), (.int .i64 (4 : Int))] w_1 (.one .bool) fun (x9_4 : Bool) w_3 => (((!x9_4) = true → (Pr Try.prog (Instr.build 31 #[]) w_3 (.one .any) fun (x26_6 : Value) w_5 => (PrU Try.prog (Instr.storeAt 31 x6_2 x26_6) w_5 fun w_7 => (QSub Try.prog (Instr.loadAt 31 x6_2) w_7 .any fun (r_9 : Value) => K ((r_9 : Value), (2 : Int)) w_7)))) ∧ ((!x9_4) = false → (Fc Try.prog 45 #[(.int .i64 k1), (.int .i64 (1 : Int)), (.int .i64 (4 : Int))] w_3 (.one .bool) fun (x13_11 : Bool) w_10 => (((!x13_11) = true → (Pr Try.prog (Instr.build 31 #[]) w_10 (.one .any) fun (x26_13 : Value) w_12 => (PrU Try.prog (Instr.storeAt 31 x6_2 x26_13) w_12 fun w_14 => (QSub Try.prog (Instr.loadAt 31 x6_2) w_14 .any fun (r_16 : Value) => K ((r_16 : Value), (2 : Int)) w_14)))) ∧ ((!x13_11) = false → (0 ≤ d0 ∧ (Fc Try.prog 48 #[list2, (.int .i64 (IntKind.i64.wrap ((IntKind.i64.wrap ((1 : Int) * 2 ^ min (Int.toNat d0) 64)) - (1 : Int)))), (.int .i64 (0 : Int)), (.int .i64 (IntKind.i64.wrap (k1 - (1 : Int))))] w_10 (.one .bool) fun (x23_18 : Bool) w_17 => (((!x23_18) = true → (Pr Try.prog (Instr.build 31 #[]) w_17 (.one .any) fun (x26_20 : Value) w_19 => (PrU Try.prog (Instr.storeAt 31 x6_2 x26_20) w_19 fun w_21 => (QSub Try.prog (Instr.loadAt 31 x6_2) w_21 .any fun (r_23 : Value) => K ((r_23 : Value), (2 : Int)) w_21)))) ∧ ((!x23_18) = false → (Fc Try.prog 68 #[(.int .i64 d0), (.int .i64 k1), list2] w_17 (.one .any) fun (x30_25 : Value) w_24 => (PrU Try.prog (Instr.storeAt 31 x6_2 x30_25) w_24 fun w_26 => (QSub Try.prog (Instr.loadAt 31 x6_2) w_26 .any fun (r_28 : Value) => K ((r_28 : Value), (0 : Int)) w_26))))))))))))))

theorem eq_impl_DigitalOf (d0 : Int) (k1 : Int) (list2 : Value) (w : World) (K : (Value × Int) → World → Prop) :
    W Try.prog ty (fun _ _ _ _ => False) (bodyOf Try.f33) (fnPost Try.prog Try.f33.results.toList (.two .any (.int .i64)) K) (frame0 [(.int .i64 d0), (.int .i64 k1), list2] 31) w = V_impl_DigitalOf d0 k1 list2 w K := by
  kernel_rfl

theorem body_impl_DigitalOf : Try.f33.body = some (bodyOf Try.f33) := by kernel_rfl
theorem name_impl_DigitalOf : (Try.f33.name == "runtime.NumGoroutine") = false := by kernel_rfl

theorem walk_impl_DigitalOf (d0 : Int) (k1 : Int) (list2 : Value) {w : World} {K : (Value × Int) → World → Prop} (h : V_impl_DigitalOf d0 k1 list2 w K) : Fc Try.prog 33 #[(.int .i64 d0), (.int .i64 k1), list2] w (.two .any (.int .i64)) K :=
  fn_ok follows (sound_none _) Try.func33 name_impl_DigitalOf body_impl_DigitalOf Try.ntmps33 [(.int .i64 d0), (.int .i64 k1), list2] (Eq.mpr (eq_impl_DigitalOf d0 k1 list2 w K) h)

-- uses S7Dig
theorem c_impl_DigitalOf {d k : Int} {a : Value} {l : List Int} {w : World} {K : Value × Int → World → Prop} (_ : I64 d) (_ : I64 k) (ha : ArgI w a l)
    (hK : ∀ w', Below w.heap.size w w' → (digOf d k l).1.Ok → K ((digOf d k l).1.val, (digOf d k l).2) w') : Fc Try.prog F_impl_DigitalOf #[.int .i64 d, .int .i64 k, a] w (.two .any (.int .i64)) K := by
  have no : ¬ DigIs d k l → ∀ w', Below w.heap.size w w' → K (col0.val, 2) w' := fun hn w' hb => by
    have := hK w' hb (digOf_ok _ _ _); unfold digOf at this; rwa [if_neg hn] at this
  refine walk_impl_DigitalOf _ _ _ (c_alloc fun p w1 hb1 hv => c_impl_in _ _ _ ?_)
  have hs1 := hb1.size
  refine ⟨fun h => c_none hv hs1 fun w' hb' => no (fun hh => notd_t h hh.1) _ (hb1.trans hb'), fun h1 => c_impl_in _ _ _ ?_⟩
  have h1 := notd_f h1
  refine ⟨fun h => c_none hv hs1 fun w' hb' => no (fun hh => notd_t h hh.2.1) _ (hb1.trans hb'), fun h2 => ⟨by omega, ?_⟩⟩
  have h2 := notd_f h2
  have hpw : (1 : Int) ≤ 2 ^ d.toNat ∧ (2 : Int) ^ d.toNat ≤ 16 := by
    obtain ⟨n, hn⟩ : ∃ n, d.toNat = n := ⟨_, rfl⟩
    have : n = 1 ∨ n = 2 ∨ n = 3 ∨ n = 4 := by omega
    rw [hn]
    rcases this with h | h | h | h <;> subst h <;> simp
  rw [Nat.min_eq_left (by omega), Int.one_mul, wrap_small (n := 2 ^ d.toNat) (by omega) (by omega), wrap_small (by omega) (by omega), wrap_small (by omega) (by omega)]
  refine c_impl_areIn (ha.sl.keep hb1) fun w2 hb2 => ?_
  have hb := hb1.trans (hb2.mono hs1)
  have hs2 := hb2.size
  refine ⟨fun h => c_none (hv.keep hb2) (by omega) fun w' hb' => no (fun hh => notd_t h ⟨hh.2.2.1, hh.2.2.2⟩) _ (hb.trans hb'), fun h3 => ?_⟩
  have h3 := notd_f h3
  have hI : DigIs d k l := ⟨h1, h2, h3.1, h3.2⟩
  rw [show (Value.int .i64 d) = .int .i64 (d.toNat : Int) from by rw [Int.toNat_of_nonneg (by omega)]]
  refine c_impl_digitalOf (by omega) ⟨by omega, by omega⟩ (ha.sl.keep hb) h3.1 hI.bd hI.ok fun w3 hb3 => ?_
  have hs3 := hb3.size
  have hK' := fun w' hb => hK w' hb (digOf_ok _ _ _)
  unfold digOf at hK'
  rw [if_pos hI] at hK'
  exact c_ret hI.ok ((hv.keep hb2).keep hb3) (by omega) fun w5 hb5 => hK' w5 ((hb.trans (hb3.mono hb.size)).trans hb5)

end Go.Proofs.Ytdnofmicjgppnaa
