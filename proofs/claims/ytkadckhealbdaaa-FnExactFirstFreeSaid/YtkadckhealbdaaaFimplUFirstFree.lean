/- The reading of impl_FirstFree, and its contract. No condition. -/
import Derived.Test.YtkadckhealbdaaaTy
import Derived.Test.YtkadckhealbdaaaS8Find
import Derived.Test.YtkadckhealbdaaaFimplUFirstFreeU1
import Derived.Test.YtkadckhealbdaaaFimplUfree
import Derived.Test.YtkadckhealbdaaaFimplUin
import Derived.Test.YtkadckhealbdaaaFimplUisFaultKind
namespace Go.Proofs.Ytkadckhealbdaaa
open Go Go.RowKit Eng Mem
set_option linter.unusedVariables false
set_option maxRecDepth 100000
def V_impl_FirstFree (n0 : Int) (k1 : Int) (kind2 : Int) (w : World) (K : (Value × Int) → World → Prop) : Prop :=
  (Pr Try.prog (Instr.box 2 (.int .i64 n0)) w (.one .any) fun (n3_2 : Value) w_1 => (QSub Try.prog (Instr.loadAt 2 n3_2) w_1 (.int .i64) fun (x10_3 : Int) => (Fc Try.prog 54 #[(.int .i64 x10_3), (.int .i64 (0 : Int)), (.int .i64 (14 : Int))] w_1 (.one .bool) fun (x11_5 : Bool) w_4 => (((!x11_5) = true → K (((.slice none 0 0) : Value), (2 : Int)) w_4) ∧ ((!x11_5) = false → (Fc Try.prog 54 #[(.int .i64 k1), (.int .i64 (1 : Int)), (.int .i64 (3 : Int))] w_4 (.one .bool) fun (x15_7 : Bool) w_6 => (((!x15_7) = true → K (((.slice none 0 0) : Value), (2 : Int)) w_6) ∧ ((!x15_7) = false → (Fc Try.prog 55 #[(.int .i64 kind2)] w_6 (.one .bool) fun (x20_9 : Bool) w_8 => (((!x20_9) = true → K (((.slice none 0 0) : Value), (2 : Int)) w_8) ∧ ((!x20_9) = false → (Pr Try.prog (Instr.buildSlice 31 0 #[]) w_8 (.one .any) fun (x23_11 : Value) w_10 => (Pr Try.prog (Instr.alloc 31 true (.tuple #[])) w_10 (.one .any) fun (out8_13 : Value) w_12 => (PrU Try.prog (Instr.storeAt 31 out8_13 x23_11) w_12 fun w_14 => (QSub Try.prog (Instr.loadAt 2 n3_2) w_14 (.int .i64) fun (x24_16 : Int) => (Fc Try.prog 56 #[(.int .i64 x24_16), (.int .i64 k1), (.int .i64 kind2), (.slice none 0 0), (.func (.func 57) #[] #[n3_2, out8_13])] w_14 (.one .bool) fun (x28_18 : Bool) w_17 => ((x28_18 = true → K (((.slice none 0 0) : Value), (4 : Int)) w_17) ∧ (x28_18 = false → (QSub Try.prog (Instr.loadAt 31 out8_13) w_17 .any fun (x30_19 : Value) => K ((x30_19 : Value), (0 : Int)) w_17)))))))))))))))))))

theorem eq_impl_FirstFree (n0 : Int) (k1 : Int) (kind2 : Int) (w : World) (K : (Value × Int) → World → Prop) :
    W Try.prog ty (fun _ _ _ _ => False) (bodyOf Try.f19) (fnPost Try.prog Try.f19.results.toList (.two .any (.int .i64)) K) (frame0 [(.int .i64 n0), (.int .i64 k1), (.int .i64 kind2)] 31) w = V_impl_FirstFree n0 k1 kind2 w K := by
  kernel_rfl

theorem body_impl_FirstFree : Try.f19.body = some (bodyOf Try.f19) := by kernel_rfl
theorem name_impl_FirstFree : (Try.f19.name == "runtime.NumGoroutine") = false := by kernel_rfl

theorem walk_impl_FirstFree (n0 : Int) (k1 : Int) (kind2 : Int) {w : World} {K : (Value × Int) → World → Prop} (h : V_impl_FirstFree n0 k1 kind2 w K) : Fc Try.prog 19 #[(.int .i64 n0), (.int .i64 k1), (.int .i64 kind2)] w (.two .any (.int .i64)) K :=
  fn_ok follows (sound_none _) Try.func19 name_impl_FirstFree body_impl_FirstFree Try.ntmps19 [(.int .i64 n0), (.int .i64 k1), (.int .i64 kind2)] (Eq.mpr (eq_impl_FirstFree n0 k1 kind2 w K) h)

-- uses S8Find
theorem c_impl_FirstFree {n k kind : Int} {w : World} {K : Value × Int → World → Prop} (_ : I64 n) (_ : I64 k) (_ : I64 kind)
    (hK : ∀ w' v, Below w.heap.size w w' → MyI w.heap.size w'.heap.size w' v (firstFree n k kind).1 → K (v, (firstFree n k kind).2) w') : Fc Try.prog F_impl_FirstFree #[.int .i64 n, .int .i64 k, .int .i64 kind] w (.two .any (.int .i64)) K := by
  unfold firstFree at hK
  refine walk_impl_FirstFree _ _ _ (box [.int .i64 n] rfl fun b1 w1 n1 => ld (k := .int .i64) yI (row_all (cs := [_]) n1.at_) (c_impl_in _ _ _ ?_))
  have k1 := fun v => hK w1 v n1.below
  refine ⟨fun h => by rw [if_neg (fun hh => notd_t h hh.1)] at k1; exact k1 _ (myI_nil _ _ _), fun h1 => c_impl_in _ _ _ ⟨fun h => by rw [if_neg (fun hh => notd_t h hh.2.1)] at k1; exact k1 _ (myI_nil _ _ _), fun h2 => c_impl_isFaultKind _ ⟨fun h => by rw [if_neg (fun hh => notd_t h hh.2.2)] at k1; exact k1 _ (myI_nil _ _ _), fun h3 => ?_⟩⟩⟩
  have h1 := notd_f h1; have h2 := notd_f h2; have h3 := notd_f h3
  clear k1
  refine nilI fun b0 v0 w2 hb2 hbel2 ho2 => alloc1 y1SI fun bo w3 n3 => st y1SI n3.at_ (by simp) (own_one ho2).1 fun w4 m4 s4 h4 => ?_
  have e1 := n1.here; have s1 := n1.size; have hs2 := hbel2.size; have e3 := n3.here; have s3 := n3.size
  have b24 : Below w2.heap.size w2 w4 := n3.below.trans (m4.below (by omega) (by simp; omega))
  have c1 : Blk w4 b1 [.int .i64 n] tI := below_at b24 (below_at hbel2 n1.at_ (by omega)) (by have := at_lt n1.at_; omega)
  refine ld (k := .int .i64) yI (row_all (cs := [_]) c1) ?_
  have q4 : Below w.heap.size w w4 := (n1.below.trans (hbel2.mono (by omega))).trans (b24.mono (by omega))
  obtain ⟨T, hT⟩ : ∃ T, goF (fun l => decide (l.length < n.toNat)) k kind n.toNat n.toNat [] = T := ⟨_, rfl⟩
  have hst := stops_goF k kind n.toNat n.toNat [] (by simp)
  rw [hT] at hst
  have hnn : ((n.toNat : Nat) : Int) = n := by omega
  have hs4 := b24.size
  have hmy0 : MyI w.heap.size w4.heap.size w4 v0 [] := own_my (ho2.keep b24) (by simp) (by omega) (ho2.keep b24).lt
  have main := c_impl_free (f := .func (.func F_impl_FirstFree_1) #[] #[ptr b1 0, ptr bo 0]) (k := k) (kind := kind) (n := n.toNat) (fun l => decide (l.length < n.toNat))
    (fun d w' => Below w.heap.size w w' ∧ w4.heap.size ≤ w'.heap.size ∧ Blk w' b1 [.int .i64 n] tI ∧ ∃ v, Blk w' bo [v] tSI ∧ MyI w.heap.size w'.heap.size w' v (outOf n.toNat d)) w4.heap.size T.1 (by omega) h3 (by omega)
    (fun d w' w'' hj hb => by
      obtain ⟨j1, j2, j3, v, j4, j5⟩ := hj
      have hz := hb.size
      exact ⟨j1.trans (hb.mono j1.size), by omega, below_at hb j3 (at_lt j3), v, below_at hb j4 (at_lt j4), (j5.keep hb).mono (Nat.le_refl _) hz⟩)
    (fun d l e hd hl part w' K' hj hm hk' => by
      obtain ⟨j1, j2, j3, v, j4, j5⟩ := hj
      refine cv rfl (c_impl_FirstFree_1 (row_all (cs := [_]) j3) j4 hm.sl fun w'' m hb'' => ?_)
      have hz := m.size
      have hmr : ModR bo (bo + 1) w' w'' := m.r (Nat.le_refl _) (by omega)
      have hne1 := blk_ne j3 j4 (by decide)
      -- the slices do not lie in the variable's block
      have own_keep : ∀ {B : Nat} {v : Value} {l : List Int}, MyI B w'.heap.size w' v l → MyI B w''.heap.size w'' v l := fun {B v l} h => by
        rcases h with ⟨hl, h | ⟨b, hB, hE, h⟩⟩
        · exact ⟨hl, .inl h⟩
        · obtain ⟨_, hbb⟩ := own_blk h
          exact ⟨hl, .inr ⟨b, hB, by omega, h.mod m (by simp; exact blk_ne hbb j4 (by decide))⟩⟩
      have := hk' w'' ⟨j1.trans (m.below j1.size (by simp; omega)), by omega, m.at_ j3 (by simp; exact hne1), _, hb'', ?_⟩ (m.r (by omega) (by have := m4.size; omega))
      · have e : decide ((l.length : Int) < n) = decide (l.length < n.toNat) := by rw [Bool.eq_iff_iff]; simp only [decide_eq_true_iff]; omega
        rw [e]; exact this
      · rw [outOf_snoc]
        by_cases hln : l.length = n.toNat
        · rw [if_pos hln, if_neg (by omega)]
          exact (own_keep hm).mono (by omega) (Nat.le_refl _)
        · rw [if_neg hln, if_pos (by omega)]
          exact own_keep j5)
    n.toNat [] (.slice none 0 0) [] [] w4
  rw [hT, hnn] at main
  refine main _ (by simp) (by simp) ⟨q4, Nat.le_refl _, c1, v0, h4, hmy0⟩ (Nat.le_refl _) (myI_nil _ _ _) fun w5 hj mr => ?_
  obtain ⟨j1, j2, j3, v, j4, j5⟩ := hj
  rw [List.nil_append] at j5
  have kk := fun v => hK w5 v j1
  rw [if_pos ⟨h1, h2, h3⟩] at kk
  cases hf : findF k kind n.toNat n.toNat [] with
  | none =>
    rw [hf] at hst kk
    rw [hst.1]
    exact ⟨fun _ => kk _ (myI_nil _ _ _), fun h => Bool.noConfusion h⟩
  | some p =>
    rw [hf] at hst kk
    obtain ⟨a, e, he, hn⟩ := hst
    rw [a]
    refine ⟨fun h => Bool.noConfusion h, fun _ => ld (k := .any) (x := v) y1SI (row_all (cs := [_]) j4) ?_⟩
    rw [he, outOf_snoc, if_pos (findF_len hf)] at j5
    exact kk v j5

end Go.Proofs.Ytkadckhealbdaaa
