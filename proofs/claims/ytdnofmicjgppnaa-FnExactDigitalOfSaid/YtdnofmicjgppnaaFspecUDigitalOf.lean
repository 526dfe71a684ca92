/- The reading of spec_DigitalOf, and its contract. No condition. -/
import Derived.Test.YtdnofmicjgppnaaTy
import Derived.Test.YtdnofmicjgppnaaS7Dig
import Derived.Test.YtdnofmicjgppnaaFspecUl01All
import Derived.Test.YtdnofmicjgppnaaFspecUl01In
import Derived.Test.YtdnofmicjgppnaaFspecUl03Digital
namespace Go.Proofs.Ytdnofmicjgppnaa
open Go Go.RowKit Eng Mem
set_option linter.unusedVariables false
set_option maxRecDepth 100000
def V_spec_DigitalOf (d0 : Int) (k1 : Int) (list2 : Value) (w : World) (K : (Value × Int) → World → Prop) : Prop :=
  (Pr Try.prog (Instr.alloc 31 true (.tuple #[])) w (.one .any) fun (x6_2 : Value) w_1 => (Fc Try.prog 43 #[(.int .i64 d0), (.int .i64 (1 : Int)), (.int .i64 (4 : Int))] w_1 (.one .bool) fun (x9_4 : Bool) w_3 => (((!x9_4) = true → (Pr Try.prog (Instr.build 31 #[]) w_3 (.one .any) fun (x31_6 : Value) w_5 => (PrU Try.prog (Instr.storeAt 31 x6_2 x31_6) w_5 fun w_7 => (QSub Try.prog (Instr.loadAt 31 x6_2) w_7 .any fun (r_9 : Value) => K ((r_9 : Value), (2 : Int)) w_7)))) ∧ ((!x9_4) = false → (Fc Try.prog 43 #[(.int .i64 k1), (.int .i64 (1 : Int)), (.int .i64 (4 : Int))] w_3 (.one .bool) fun (x13_11 : Bool) w_10 => (((!x13_11) = true → (Pr Try.prog (Instr.build 31 #[]) w_10 (.one .any) fun (x31_13 : Value) w_12 => (PrU Try.prog (Instr.storeAt 31 x6_2 x31_13) w_12 fun w_14 => (QSub Try.prog (Instr.loadAt 31 x6_2) w_14 .any fun (r_16 : Value) => K ((r_16 : Value), (2 : Int)) w_14)))) ∧ ((!x13_11) = false → (QAll Try.prog (Builtin.len_ #[22] 3 #[list2]) (.int .i64) fun (x18_17 : Int) => (QAll Try.prog (convert 2 70 (.int .i64 d0)) (.int .u64) fun (x20_18 : Int) => (0 ≤ x20_18 ∧ (((x18_17 != (IntKind.i64.wrap ((IntKind.i64.wrap ((1 : Int) * 2 ^ min (Int.toNat x20_18) 64)) - (1 : Int)))) = true → (Pr Try.prog (Instr.build 31 #[]) w_10 (.one .any) fun (x31_20 : Value) w_19 => (PrU Try.prog (Instr.storeAt 31 x6_2 x31_20) w_19 fun w_21 => (QSub Try.prog (Instr.loadAt 31 x6_2) w_21 .any fun (r_23 : Value) => K ((r_23 : Value), (2 : Int)) w_21)))) ∧ ((x18_17 != (IntKind.i64.wrap ((IntKind.i64.wrap ((1 : Int) * 2 ^ min (Int.toNat x20_18) 64)) - (1 : Int)))) = false → (Fc Try.prog 46 #[list2, (.int .i64 k1)] w_10 (.one .bool) fun (x28_25 : Bool) w_24 => (((!x28_25) = true → (Pr Try.prog (Instr.build 31 #[]) w_24 (.one .any) fun (x31_27 : Value) w_26 => (PrU Try.prog (Instr.storeAt 31 x6_2 x31_27) w_26 fun w_28 => (QSub Try.prog (Instr.loadAt 31 x6_2) w_28 .any fun (r_30 : Value) => K ((r_30 : Value), (2 : Int)) w_28)))) ∧ ((!x28_25) = false → (QAll Try.prog (convert 2 70 (.int .i64 d0)) (.int .u64) fun (x33_31 : Int) => (0 ≤ x33_31 ∧ (Fc Try.prog 67 #[(.int .i64 (IntKind.i64.wrap ((1 : Int) * 2 ^ min (Int.toNat x33_31) 64))), (.int .i64 k1), list2] w_24 (.one .any) fun (x37_33 : Value) w_32 => (PrU Try.prog (Instr.storeAt 31 x6_2 x37_33) w_32 fun w_34 => (QSub Try.prog (Instr.loadAt 31 x6_2) w_34 .any fun (r_36 : Value) => K ((r_36 : Value), (0 : Int)) w_34))))))))))))))))))))

theorem eq_spec_DigitalOf (d0 : Int) (k1 : Int) (list2 : Value) (w : World) (K : (Value × Int) → World → Prop) :
    W Try.prog ty (fun _ _ _ _ => False) (bodyOf Try.f32) (fnPost Try.prog Try.f32.results.toList (.two .any (.int .i64)) K) (frame0 [(.int .i64 d0), (.int .i64 k1), list2] 38) w = V_spec_DigitalOf d0 k1 list2 w K := by
  kernel_rfl

theorem body_spec_DigitalOf : Try.f32.body = some (bodyOf Try.f32) := by kernel_rfl
theorem name_spec_DigitalOf : (Try.f32.name == "runtime.NumGoroutine") = false := by kernel_rfl

theorem walk_spec_DigitalOf (d0 : Int) (k1 : Int) (list2 : Value) {w : World} {K : (Value × Int) → World → Prop} (h : V_spec_DigitalOf d0 k1 list2 w K) : Fc Try.prog 32 #[(.int .i64 d0), (.int .i64 k1), list2] w (.two .any (.int .i64)) K :=
  fn_ok follows (sound_none _) Try.func32 name_spec_DigitalOf body_spec_DigitalOf Try.ntmps32 [(.int .i64 d0), (.int .i64 k1), list2] (Eq.mpr (eq_spec_DigitalOf d0 k1 list2 w K) h)

-- uses S7Dig
theorem c_spec_DigitalOf {d k : Int} {a : Value} {l : List Int} {w : World} {K : Value × Int → World → Prop} (_ : I64 d) (_ : I64 k) (ha : ArgI w a l)
    (hK : ∀ w', Below w.heap.size w w' → (digOf d k l).1.Ok → K ((digOf d k l).1.val, (digOf d k l).2) w') : Fc Try.prog F_spec_DigitalOf #[.int .i64 d, .int .i64 k, a] w (.two .any (.int .i64)) K := by
  have no : ¬ DigIs d k l → ∀ w', Below w.heap.size w w' → K (col0.val, 2) w' := fun hn w' hb => by
    have := hK w' hb (digOf_ok _ _ _); unfold digOf at this; rwa [if_neg hn] at this
  refine walk_spec_DigitalOf _ _ _ (c_alloc fun p w1 hb1 hv => c_spec_l01In _ _ _ ?_)
  have hs1 := hb1.size
  refine ⟨fun h => c_none hv hs1 fun w' hb' => no (fun hh => notd_t h hh.1) _ (hb1.trans hb'), fun h1 => c_spec_l01In _ _ _ ?_⟩
  have h1 := notd_f h1
  refine ⟨fun h => c_none hv hs1 fun w' hb' => no (fun hh => notd_t h hh.2.1) _ (hb1.trans hb'), fun h2 => lenI (ha.sl.keep hb1) (int_u64 (by omega) (by omega) ⟨by omega, ?_⟩)⟩
  have h2 := notd_f h2
  have hpw : (1 : Int) ≤ 2 ^ d.toNat ∧ (2 : Int) ^ d.toNat ≤ 16 := by
    obtain ⟨n, hn⟩ : ∃ n, d.toNat = n := ⟨_, rfl⟩
    have : n = 1 ∨ n = 2 ∨ n = 3 ∨ n = 4 := by omega
    rw [hn]
    rcases this with h | h | h | h <;> subst h <;> simp
  have hw : IntKind.i64.wrap (1 * 2 ^ min d.toNat 64) = 2 ^ d.toNat := by
    rw [Nat.min_eq_left (by omega), Int.one_mul, wrap_small (n := 2 ^ d.toNat) (by omega) (by omega)]
  rw [hw, wrap_small (by omega) (by omega)]
  refine ⟨fun h => c_none hv hs1 fun w' hb' => no (fun hh => ne_t h hh.2.2.1) _ (hb1.trans hb'), fun h3 => c_spec_l01All (ha.sl.keep hb1) (by omega) (by omega) ?_⟩
  have h3 := ne_f h3
  refine ⟨fun h => c_none hv hs1 fun w' hb' => no (fun hh => notd_t h hh.2.2.2) _ (hb1.trans hb'), fun h4 => int_u64 (by omega) (by omega) ⟨by omega, ?_⟩⟩
  have h4 := notd_f h4
  have hI : DigIs d k l := ⟨h1, h2, h3, h4⟩
  rw [hw]
  refine c_spec_l03Digital (by omega) ⟨by omega, by omega⟩ (ha.sl.keep hb1) h3 (fun x hx => by have := h4 x hx; omega) hI.ok fun w3 hb3 => ?_
  have hs3 := hb3.size
  have hK' := fun w' hb => hK w' hb (digOf_ok _ _ _)
  unfold digOf at hK'
  rw [if_pos hI] at hK'
  exact c_ret hI.ok (hv.keep hb3) (by omega) fun w5 hb5 => hK' w5 ((hb1.trans (hb3.mono hs1)).trans hb5)

end Go.Proofs.Ytdnofmicjgppnaa
