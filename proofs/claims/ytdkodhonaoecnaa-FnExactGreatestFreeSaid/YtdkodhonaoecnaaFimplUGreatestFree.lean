/- The reading of impl_GreatestFree, and its contract. No condition. -/
import Derived.Test.YtdkodhonaoecnaaTy
import Derived.Test.YtdkodhonaoecnaaS8Great
import Derived.Test.YtdkodhonaoecnaaFimplUGreatestFreeU1
import Derived.Test.YtdkodhonaoecnaaFimplUfree
import Derived.Test.YtdkodhonaoecnaaFimplUin
import Derived.Test.YtdkodhonaoecnaaFimplUisFaultKind
namespace Go.Proofs.Ytdkodhonaoecnaa
open Go Go.RowKit Eng Mem
set_option linter.unusedVariables false
set_option maxRecDepth 100000
def V_impl_GreatestFree (k0 : Int) (kind1 : Int) (w : World) (K : (Int × Int) → World → Prop) : Prop :=
  (Fc Try.prog 48 #[(.int .i64 k0), (.int .i64 (1 : Int)), (.int .i64 (2 : Int))] w (.one .bool) fun (x8_2 : Bool) w_1 => (((!x8_2) = true → K ((0 : Int), (2 : Int)) w_1) ∧ ((!x8_2) = false → (Fc Try.prog 60 #[(.int .i64 kind1)] w_1 (.one .bool) fun (x12_4 : Bool) w_3 => (((!x12_4) = true → K ((0 : Int), (2 : Int)) w_3) ∧ ((!x12_4) = false → (Pr Try.prog (Instr.alloc 2 true (.tuple #[])) w_3 (.one .any) fun (most6_6 : Value) w_5 => (PrU Try.prog (Instr.storeAt 2 most6_6 (.int .i64 (0 : Int))) w_5 fun w_7 => (Fc Try.prog 61 #[(.int .i64 (40 : Int)), (.int .i64 k0), (.int .i64 kind1), (.slice none 0 0), (.func (.func 62) #[] #[most6_6])] w_7 (.one .bool) fun (x18_10 : Bool) w_9 => (QSub Try.prog (Instr.loadAt 2 most6_6) w_9 (.int .i64) fun (x19_11 : Int) => K (x19_11, (0 : Int)) w_9))))))))))

theorem eq_impl_GreatestFree (k0 : Int) (kind1 : Int) (w : World) (K : (Int × Int) → World → Prop) :
    W Try.prog ty (fun _ _ _ _ => False) (bodyOf Try.f23) (fnPost Try.prog Try.f23.results.toList (.two (.int .i64) (.int .i64)) K) (frame0 [(.int .i64 k0), (.int .i64 kind1)] 20) w = V_impl_GreatestFree k0 kind1 w K := by
  kernel_rfl

theorem body_impl_GreatestFree : Try.f23.body = some (bodyOf Try.f23) := by kernel_rfl
theorem name_impl_GreatestFree : (Try.f23.name == "runtime.NumGoroutine") = false := by kernel_rfl

theorem walk_impl_GreatestFree (k0 : Int) (kind1 : Int) {w : World} {K : (Int × Int) → World → Prop} (h : V_impl_GreatestFree k0 kind1 w K) : Fc Try.prog 23 #[(.int .i64 k0), (.int .i64 kind1)] w (.two (.int .i64) (.int .i64)) K :=
  fn_ok follows (sound_none _) Try.func23 name_impl_GreatestFree body_impl_GreatestFree Try.ntmps23 [(.int .i64 k0), (.int .i64 kind1)] (Eq.mpr (eq_impl_GreatestFree k0 kind1 w K) h)

-- uses S8Great
theorem c_impl_GreatestFree {k kind : Int} {w : World} {K : Int × Int → World → Prop} (_ : I64 k) (_ : I64 kind)
    (hK : ∀ w', Below w.heap.size w w' → K ((greatF k kind).1, (greatF k kind).2) w') : Fc Try.prog F_impl_GreatestFree #[.int .i64 k, .int .i64 kind] w (.two (.int .i64) (.int .i64)) K := by
  unfold greatF at hK
  have k0 := hK w (Below.refl _ _)
  refine walk_impl_GreatestFree _ _ (c_impl_in _ _ _ ⟨fun h => by rwa [if_neg (fun hh => notd_t h hh.1)] at k0, fun h1 => c_impl_isFaultKind _ ⟨fun h => by rwa [if_neg (fun hh => notd_t h hh.2)] at k0, fun h2 => ?_⟩⟩)
  have h1 := notd_f h1; have h2 := notd_f h2
  refine alloc1 yI fun bm w1 n1 => st yI n1.at_ (by simp) rfl fun w2 m2 s2 h3 => ?_
  have e1 := n1.here; have s1 := n1.size
  have q2 : Below w.heap.size w w2 := n1.below.trans (m2.below (by omega) (by simp; omega))
  have main := c_impl_free (f := .func (.func F_impl_GreatestFree_1) #[] #[ptr bm 0]) (k := k) (kind := kind) (n := 40) (fun _ => true)
    (fun d w' => Below w.heap.size w w' ∧ Blk w' bm [.int .i64 (mostL d : Nat)] tI) w2.heap.size (goF (fun _ => true) k kind 40 40 []).1 (by omega) h2 (by omega)
    (fun d w' w'' hj hb => ⟨hj.1.trans (hb.mono hj.1.size), below_at hb hj.2 (at_lt hj.2)⟩)
    (fun d l e hd hl part w' K' hj hm hk' => cv rfl (c_impl_GreatestFree_1 hj.2 hm.sl fun w'' m hb => hk' w'' ⟨hj.1.trans (m.below hj.1.size (by simp; omega)), by rw [mostL_snoc]; exact hb⟩ (m.r (by omega) (by omega))))
    40 [] (.slice none 0 0) [] [] w2
  refine main _ (by simp) (by simp) ⟨q2, by simpa [mostL] using h3⟩ (Nat.le_refl _) (myI_nil _ _ _) fun w3 hj mr => ?_
  refine ld (k := .int .i64) yI (row_all (cs := [_]) hj.2) ?_
  have := hK w3 hj.1
  rw [if_pos ⟨h1, h2⟩] at this
  exact this

end Go.Proofs.Ytdkodhonaoecnaa
