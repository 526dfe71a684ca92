/- The reading of impl_CountFree, and its contract. No condition. -/
import Derived.Test.YtdnofmicjgppnaaTy
import Derived.Test.YtdnofmicjgppnaaS8CF
import Derived.Test.YtdnofmicjgppnaaFimplUCountFreeU1
import Derived.Test.YtdnofmicjgppnaaFimplUfree
import Derived.Test.YtdnofmicjgppnaaFimplUin
import Derived.Test.YtdnofmicjgppnaaFimplUisFaultKind
namespace Go.Proofs.Ytdnofmicjgppnaa
open Go Go.RowKit Eng Mem
set_option linter.unusedVariables false
set_option maxRecDepth 100000
def V_impl_CountFree (n0 : Int) (k1 : Int) (kind2 : Int) (w : World) (K : (Int × Int) → World → Prop) : Prop :=
  (Pr Try.prog (Instr.box 2 (.int .i64 n0)) w (.one .any) fun (n3_2 : Value) w_1 => (QSub Try.prog (Instr.loadAt 2 n3_2) w_1 (.int .i64) fun (x9_3 : Int) => (Fc Try.prog 45 #[(.int .i64 x9_3), (.int .i64 (0 : Int)), (.int .i64 (12 : Int))] w_1 (.one .bool) fun (x10_5 : Bool) w_4 => (((!x10_5) = true → K ((0 : Int), (2 : Int)) w_4) ∧ ((!x10_5) = false → (Fc Try.prog 45 #[(.int .i64 k1), (.int .i64 (1 : Int)), (.int .i64 (3 : Int))] w_4 (.one .bool) fun (x14_7 : Bool) w_6 => (((!x14_7) = true → K ((0 : Int), (2 : Int)) w_6) ∧ ((!x14_7) = false → (Fc Try.prog 77 #[(.int .i64 kind2)] w_6 (.one .bool) fun (x19_9 : Bool) w_8 => (((!x19_9) = true → K ((0 : Int), (2 : Int)) w_8) ∧ ((!x19_9) = false → (Pr Try.prog (Instr.alloc 2 true (.tuple #[])) w_8 (.one .any) fun (many8_11 : Value) w_10 => (PrU Try.prog (Instr.storeAt 2 many8_11 (.int .i64 (0 : Int))) w_10 fun w_12 => (QSub Try.prog (Instr.loadAt 2 n3_2) w_12 (.int .i64) fun (x22_14 : Int) => (Fc Try.prog 78 #[(.int .i64 x22_14), (.int .i64 k1), (.int .i64 kind2), (.slice none 0 0), (.func (.func 79) #[] #[n3_2, many8_11])] w_12 (.one .bool) fun (x26_16 : Bool) w_15 => (QSub Try.prog (Instr.loadAt 2 many8_11) w_15 (.int .i64) fun (x27_17 : Int) => K (x27_17, (0 : Int)) w_15))))))))))))))))

theorem eq_impl_CountFree (n0 : Int) (k1 : Int) (kind2 : Int) (w : World) (K : (Int × Int) → World → Prop) :
    W Try.prog ty (fun _ _ _ _ => False) (bodyOf Try.f41) (fnPost Try.prog Try.f41.results.toList (.two (.int .i64) (.int .i64)) K) (frame0 [(.int .i64 n0), (.int .i64 k1), (.int .i64 kind2)] 28) w = V_impl_CountFree n0 k1 kind2 w K := by
  kernel_rfl

theorem body_impl_CountFree : Try.f41.body = some (bodyOf Try.f41) := by kernel_rfl
theorem name_impl_CountFree : (Try.f41.name == "runtime.NumGoroutine") = false := by kernel_rfl

theorem walk_impl_CountFree (n0 : Int) (k1 : Int) (kind2 : Int) {w : World} {K : (Int × Int) → World → Prop} (h : V_impl_CountFree n0 k1 kind2 w K) : Fc Try.prog 41 #[(.int .i64 n0), (.int .i64 k1), (.int .i64 kind2)] w (.two (.int .i64) (.int .i64)) K :=
  fn_ok follows (sound_none _) Try.func41 name_impl_CountFree body_impl_CountFree Try.ntmps41 [(.int .i64 n0), (.int .i64 k1), (.int .i64 kind2)] (Eq.mpr (eq_impl_CountFree n0 k1 kind2 w K) h)

-- uses S8CF
theorem c_impl_CountFree {n k kind : Int} {w : World} {K : Int × Int → World → Prop} (_ : I64 n) (_ : I64 k) (_ : I64 kind)
    (hK : ∀ w', Below w.heap.size w w' → K ((countFree n k kind).1, (countFree n k kind).2) w') : Fc Try.prog F_impl_CountFree #[.int .i64 n, .int .i64 k, .int .i64 kind] w (.two (.int .i64) (.int .i64)) K := by
  unfold countFree at hK
  refine walk_impl_CountFree _ _ _ (box [.int .i64 n] rfl fun b1 w1 n1 => ld (k := .int .i64) yI (row_all (cs := [_]) n1.at_) (c_impl_in _ _ _ ?_))
  have k1 := hK w1 n1.below
  refine ⟨fun h => by rwa [if_neg (fun hh => notd_t h hh.1)] at k1, fun h1 => c_impl_in _ _ _ ⟨fun h => by rwa [if_neg (fun hh => notd_t h hh.2.1)] at k1, fun h2 => c_impl_isFaultKind _ ⟨fun h => by rwa [if_neg (fun hh => notd_t h hh.2.2)] at k1, fun h3 => ?_⟩⟩⟩
  have h1 := notd_f h1; have h2 := notd_f h2; have h3 := notd_f h3
  refine alloc1 yI fun b2 w2 n2 => st yI n2.at_ (by simp) rfl fun w3 m3 s3 h3' => ?_
  have e1 := n1.here; have s1 := n1.size; have e2 := n2.here; have s2 := n2.size
  have b13 : Below w1.heap.size w1 w3 := n2.below.trans (m3.below (by omega) (by simp; omega))
  have c1 : Blk w3 b1 [.int .i64 n] tI := below_at b13 n1.at_ (by omega)
  refine ld (k := .int .i64) yI (row_all (cs := [_]) c1) ?_
  obtain ⟨T, hT⟩ : ∃ T, goF (fun _ => true) k kind n.toNat n.toNat [] = T := ⟨_, rfl⟩
  have hTl := goF_len (fun _ => true) k kind h2.2 n.toNat n.toNat []
  have hTc := cnt_goF k kind n.toNat n.toNat [] (by simp)
  have h312 := pow3_12 (f := n.toNat) (by omega)
  rw [hT] at hTl hTc
  have hnn : ((n.toNat : Nat) : Int) = n := by omega
  have main := c_impl_free (f := .func (.func F_impl_CountFree_1) #[] #[ptr b1 0, ptr b2 0]) (k := k) (kind := kind) (n := n.toNat) (fun _ => true)
    (fun d w' => Below w.heap.size w w' ∧ Blk w' b1 [.int .i64 n] tI ∧ Blk w' b2 [.int .i64 (d.countP fun l : List Int => decide (l.length = n.toNat) : Nat)] tI) w3.heap.size T.1 (by omega) h3 (by omega)
    (fun d w' w'' hj hb => ⟨hj.1.trans (hb.mono hj.1.size), below_at hb hj.2.1 (at_lt hj.2.1), below_at hb hj.2.2 (at_lt hj.2.2)⟩)
    (fun d l e hd hl part w' K' hj hm hk' => by
      refine cv rfl ?_
      have hcd : d.countP (fun l => decide (l.length = n.toNat)) ≤ d.length := List.countP_le_length
      have hdl : d.length ≤ T.1.length := by rw [hd]; simp
      refine c_impl_CountFree_1 (row_all (cs := [_]) hj.2.1) hj.2.2 hm.sl (by omega) (by omega) fun w'' m hb'' => hk' w'' ⟨hj.1.trans (m.below hj.1.size (by simp; omega)), m.at_ hj.2.1 (by simp; omega), ?_⟩ (m.r (by omega) (by omega))
      rw [List.countP_append]
      simp only [List.countP_cons, List.countP_nil, Nat.zero_add]
      by_cases hln : l.length = n.toNat
      · rw [if_pos (by omega)] at hb''
        rw [if_pos (by simpa using hln)]
        exact hb''
      · rw [if_neg (by omega)] at hb''
        rw [if_neg (by simpa using hln)]
        simpa using hb'')
    n.toNat [] (.slice none 0 0) [] [] w3
  rw [hT, hnn] at main
  refine main _ (by simp) (by simp) ⟨n1.below.trans (b13.mono (by omega)), c1, by simpa using h3'⟩ (Nat.le_refl _) (myI_nil _ _ _) fun w4 hj mr => ?_
  refine ld (k := .int .i64) yI (row_all (cs := [_]) hj.2.2) ?_
  have := hK w4 hj.1
  rw [if_pos ⟨h1, h2, h3⟩] at this
  rw [List.nil_append, hTc.2]
  exact this

end Go.Proofs.Ytdnofmicjgppnaa
