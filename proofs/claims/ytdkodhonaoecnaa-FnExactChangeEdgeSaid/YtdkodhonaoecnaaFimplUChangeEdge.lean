/- The reading of impl_ChangeEdge, and its contract. No condition. -/
import Derived.Test.YtdkodhonaoecnaaTy
import Derived.Test.YtdkodhonaoecnaaS7Chg
import Derived.Test.YtdkodhonaoecnaaFimplUChangeEdgeU1
import Derived.Test.YtdkodhonaoecnaaFimplUColouringUcode
import Derived.Test.YtdkodhonaoecnaaFimplUColouringUput
namespace Go.Proofs.Ytdkodhonaoecnaa
open Go Go.RowKit Eng Mem
set_option linter.unusedVariables false
set_option maxRecDepth 100000
def V_impl_ChangeEdge (x0 : Value) (i1 : Int) (j2 : Int) (c3 : Int) (w : World) (K : (Value × Int) → World → Prop) : Prop :=
  (Pr Try.prog (Instr.box 28 x0) w (.one .any) fun (x4_2 : Value) w_1 => (Pr Try.prog (Instr.box 2 (.int .i64 i1)) w_1 (.one .any) fun (i5_4 : Value) w_3 => (Pr Try.prog (Instr.box 2 (.int .i64 j2)) w_3 (.one .any) fun (j6_6 : Value) w_5 => (Pr Try.prog (Instr.box 2 (.int .i64 c3)) w_5 (.one .any) fun (c7_8 : Value) w_7 => (Pr Try.prog (Instr.alloc 28 true (.tuple #[])) w_7 (.one .any) fun (x8_10 : Value) w_9 => (Fc Try.prog 72 #[x4_2, (.func (.func 73) #[] #[x4_2, i5_4, j6_6, c7_8])] w_9 (.one (.int .i64)) fun (x12_12 : Int) w_11 => (((x12_12 != (0 : Int)) = true → (Pr Try.prog (Instr.build 28 #[]) w_11 (.one .any) fun (x15_14 : Value) w_13 => (PrU Try.prog (Instr.storeAt 28 x8_10 x15_14) w_13 fun w_15 => (QSub Try.prog (Instr.loadAt 28 x8_10) w_15 .any fun (r_17 : Value) => K ((r_17 : Value), x12_12) w_15)))) ∧ ((x12_12 != (0 : Int)) = false → (QSub Try.prog (Instr.loadAt 2 i5_4) w_11 (.int .i64) fun (x17_18 : Int) => (QSub Try.prog (Instr.loadAt 2 j6_6) w_11 (.int .i64) fun (x18_19 : Int) => (QSub Try.prog (Instr.loadAt 2 c7_8) w_11 (.int .i64) fun (x19_20 : Int) => (Fc Try.prog 76 #[x4_2, (.int .i64 x17_18), (.int .i64 x18_19), (.int .i64 x19_20)] w_11 .unit fun (x20_22 : Unit) w_21 => (QSub Try.prog (Instr.loadAt 28 x4_2) w_21 .any fun (x21_23 : Value) => (PrU Try.prog (Instr.storeAt 28 x8_10 x21_23) w_21 fun w_24 => (QSub Try.prog (Instr.loadAt 28 x8_10) w_24 .any fun (r_26 : Value) => K ((r_26 : Value), (0 : Int)) w_24)))))))))))))))

theorem eq_impl_ChangeEdge (x0 : Value) (i1 : Int) (j2 : Int) (c3 : Int) (w : World) (K : (Value × Int) → World → Prop) :
    W Try.prog ty (fun _ _ _ _ => False) (bodyOf Try.f28) (fnPost Try.prog Try.f28.results.toList (.two .any (.int .i64)) K) (frame0 [x0, (.int .i64 i1), (.int .i64 j2), (.int .i64 c3)] 22) w = V_impl_ChangeEdge x0 i1 j2 c3 w K := by
  kernel_rfl

theorem body_impl_ChangeEdge : Try.f28.body = some (bodyOf Try.f28) := by kernel_rfl
theorem name_impl_ChangeEdge : (Try.f28.name == "runtime.NumGoroutine") = false := by kernel_rfl

theorem walk_impl_ChangeEdge (x0 : Value) (i1 : Int) (j2 : Int) (c3 : Int) {w : World} {K : (Value × Int) → World → Prop} (h : V_impl_ChangeEdge x0 i1 j2 c3 w K) : Fc Try.prog 28 #[x0, (.int .i64 i1), (.int .i64 j2), (.int .i64 c3)] w (.two .any (.int .i64)) K :=
  fn_ok follows (sound_none _) Try.func28 name_impl_ChangeEdge body_impl_ChangeEdge Try.ntmps28 [x0, (.int .i64 i1), (.int .i64 j2), (.int .i64 c3)] (Eq.mpr (eq_impl_ChangeEdge x0 i1 j2 c3 w K) h)

-- uses S7Chg
theorem c_impl_ChangeEdge {c : Col} {i j x : Int} {w : World} {K : Value × Int → World → Prop} (hc : c.Ok) (_ : I64 i) (_ : I64 j) (_ : I64 x)
    (hK : ∀ w', Below w.heap.size w w' → (chgOf c i j x).1.Ok → K ((chgOf c i j x).1.val, (chgOf c i j x).2) w') : Fc Try.prog F_impl_ChangeEdge #[c.val, .int .i64 i, .int .i64 j, .int .i64 x] w (.two .any (.int .i64)) K := by
  have hK := fun w' hb => hK w' hb (chgOf_ok hc i j x)
  unfold chgOf at hK
  refine walk_impl_ChangeEdge _ _ _ _ (col_box fun b1 w1 n1 hx => box [.int .i64 i] rfl fun b2 w2 n2 => box [.int .i64 j] rfl fun b3 w3 n3 => box [.int .i64 x] rfl fun b4 w4 n4 => c_alloc fun p w5 hb5 hv => ?_)
  have q2 := n1.below.trans (n2.below.mono n1.below.size)
  have q3 := q2.trans (n3.below.mono q2.size)
  have q4 := q3.trans (n4.below.mono q3.size)
  have q5 := q4.trans (hb5.mono q4.size)
  have bx : BlkC w5 b1 c := below_at hb5 (below_at n4.below (below_at n3.below (below_at n2.below n1.at_ (at_lt n1.at_)) (by have := n2.below.size; have := at_lt n1.at_; omega)) (by have := n2.below.size; have := n3.below.size; have := at_lt n1.at_; omega)) (by have := n2.below.size; have := n3.below.size; have := n4.below.size; have := at_lt n1.at_; omega)
  have hx5 : ColAt w5 (ptr b1 0) c := row_all bx
  have ci : Cell w5 (ptr b2 0) (.int .i64 i) := (((row_all (cs := [_]) n2.at_).keep n3.below).keep n4.below).keep hb5
  have cj : Cell w5 (ptr b3 0) (.int .i64 j) := ((row_all (cs := [_]) n3.at_).keep n4.below).keep hb5
  have cx : Cell w5 (ptr b4 0) (.int .i64 x) := (row_all (cs := [_]) n4.at_).keep hb5
  have hs4 := q4.size; have hs5 := hb5.size
  refine c_impl_Colouring_code (decide (chgIs c i j x)) hc hx5 (fun hI w' K' hb' hk => cv rfl (c_impl_ChangeEdge_1 hI (hx5.keep hb') (ci.keep hb') (cj.keep hb') (cx.keep hb') (hk _ (Below.refl _ _)))) fun w6 hb6 => ?_
  have q6 := q5.trans (hb6.mono q5.size)
  have hs6 := hb6.size
  have e1 := n1.here
  by_cases hI : c.Is
  · rw [if_pos hI] at hK ⊢
    by_cases hg : chgIs c i j x
    · rw [if_pos hg] at hK
      rw [if_pos (by simpa using hg)]
      have n0 := hI.1; have n1' := hI.2.1; have k0 := hI.2.2.1; have k1 := hI.2.2.2.1
      obtain ⟨g1, g2, g3, g4, g5⟩ := id hg
      refine ⟨fun e => absurd rfl (ne_t e), fun _ => ld (k := .int .i64) yI (ci.keep hb6) (ld (k := .int .i64) yI (cj.keep hb6) (ld (k := .int .i64) yI (cx.keep hb6) ?_))⟩
      have b6 : BlkC w6 b1 ⟨c.n, c.k, c.es⟩ := below_at hb6 bx (at_lt bx)
      refine c_impl_Colouring_put b6 hc.len g1.1 (by omega) g2.1 (by omega) g3 g4 (by omega) fun w7 m7 h7 => ?_
      have hok : (c.setE (num i j).toNat x).Ok := hc.setE _ g4 (by omega)
      have hs7 := m7.size
      have hne := hv.keep hb6
      have hne7 : CVar w4.heap.size w7 p := by
        obtain ⟨b', l, rfl, hB, hl, hn⟩ := hne
        exact ⟨b', l, rfl, hB, m7.at_ hl (by simp; have := at_lt n1.at_; have := n2.below.size; have := n3.below.size; have := n4.below.size; omega), hn⟩
      refine col_all hok (blk_row h7) (c_ret hok hne7 (by omega) fun w8 hb8 => hK w8 ((q6.trans (m7.below (by omega) (by simp; omega))).trans (hb8.mono hs4)))
    · rw [if_neg hg] at hK
      rw [if_neg (by simpa using hg)]
      exact ⟨fun _ => c_none (hv.keep hb6) (by omega) fun w' hb' => hK w' (q6.trans (hb'.mono hs4)), fun e => absurd (ne_f e) (by omega)⟩
  · rw [if_neg hI] at hK ⊢
    exact ⟨fun _ => c_none (hv.keep hb6) (by omega) fun w' hb' => hK w' (q6.trans (hb'.mono hs4)), fun e => absurd (ne_f e) (by omega)⟩

end Go.Proofs.Ytdkodhonaoecnaa
