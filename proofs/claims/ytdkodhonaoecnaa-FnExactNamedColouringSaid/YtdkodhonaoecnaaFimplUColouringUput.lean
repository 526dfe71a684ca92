/- The reading of impl_Colouring_put, and its contract. No condition. -/
import Derived.Test.YtdkodhonaoecnaaTy
import Derived.Test.YtdkodhonaoecnaaS5Made
import Derived.Test.YtdkodhonaoecnaaFimplUnumber
namespace Go.Proofs.Ytdkodhonaoecnaa
open Go Go.RowKit Eng Mem
set_option linter.unusedVariables false
set_option maxRecDepth 100000
def V_impl_Colouring_put (x0 : Value) (i1 : Int) (j2 : Int) (c3 : Int) (w : World) (K : Unit → World → Prop) : Prop :=
  (∀ w_1, Drew w w_1 → (QAll Try.prog (convert 2 5 (.int .i64 c3)) (.int .u8) fun (x13_2 : Int) => (NilOk x0 ∧ (QAll Try.prog (Instr.fieldAt 28 x0 2) .any fun (x15_3 : Value) => (Fc Try.prog 101 #[(.int .i64 i1), (.int .i64 j2)] w_1 (.one (.int .i64)) fun (x11_5 : Int) w_4 => (QAll Try.prog (Instr.indexAt 26 x15_3 (.int .i64 x11_5)) .any fun (x16_6 : Value) => (PrU Try.prog (Instr.storeAt 5 x16_6 (.int .u8 x13_2)) w_4 fun w_7 => K () w_7)))))))

theorem eq_impl_Colouring_put (x0 : Value) (i1 : Int) (j2 : Int) (c3 : Int) (w : World) (K : Unit → World → Prop) :
    W Try.prog ty (fun _ _ _ _ => False) (bodyOf Try.f76) (fnPost Try.prog Try.f76.results.toList .unit K) (frame0 [x0, (.int .i64 i1), (.int .i64 j2), (.int .i64 c3)] 17) w = V_impl_Colouring_put x0 i1 j2 c3 w K := by
  kernel_rfl

theorem body_impl_Colouring_put : Try.f76.body = some (bodyOf Try.f76) := by kernel_rfl
theorem name_impl_Colouring_put : (Try.f76.name == "runtime.NumGoroutine") = false := by kernel_rfl

theorem walk_impl_Colouring_put (x0 : Value) (i1 : Int) (j2 : Int) (c3 : Int) {w : World} {K : Unit → World → Prop} (h : V_impl_Colouring_put x0 i1 j2 c3 w K) : Fc Try.prog 76 #[x0, (.int .i64 i1), (.int .i64 j2), (.int .i64 c3)] w .unit K :=
  fn_ok follows (sound_none _) Try.func76 name_impl_Colouring_put body_impl_Colouring_put Try.ntmps76 [x0, (.int .i64 i1), (.int .i64 j2), (.int .i64 c3)] (Eq.mpr (eq_impl_Colouring_put x0 i1 j2 c3 w K) h)

-- uses S5Made
theorem c_impl_Colouring_put {b : Nat} {n k : Int} {es : List Int} {i j c : Int} {w : World} {K : Unit → World → Prop} (h : BlkC w b ⟨n, k, es⟩) (hl : es.length = 136) (h0 : 0 ≤ i) (h1 : i < 17) (k0 : 0 ≤ j) (k1 : j < 17) (hne : i ≠ j) (c0 : 0 ≤ c) (c1 : c < 256)
    (hK : ∀ w', Mod [b] w w' → BlkC w' b ⟨n, k, es.set (num i j).toNat c⟩ → K () w') :
    Fc Try.prog F_impl_Colouring_put #[ptr b 0, .int .i64 i, .int .i64 j, .int .i64 c] w .unit K := by
  refine walk_impl_Colouring_put _ _ _ _ ?_
  intro w1 hd
  have hb := hd.below w.heap.size
  have hx : BlkC w1 b ⟨n, k, es⟩ := below_at hb h (at_lt h)
  have hn := num_lt h0 h1 k0 k1 (Int.le_refl _) hne
  rw [show edgesOf 17 = 136 from by decide] at hn
  refine int_u8 c0 c1 ⟨.inl ⟨_, rfl⟩, fldp f2 (c_impl_number h0 (by omega) k0 (by omega) (put_e hx hl hn.1 hn.2 fun w2 m hs hb2 => ?_))⟩
  exact hK w2 ((mod_of_below hb [b]).trans m) hb2

end Go.Proofs.Ytdkodhonaoecnaa
