/- Texts that the law FnExactNeighbourBound needs, joined. No condition. -/
import Derived.Test.YtlbhpbaeokgmaaaKNeighbourBound1
set_option linter.all false
/- The reading of slices_DeleteFunc_int64_int64, and its contract. No condition. -/
namespace Go.Proofs.Ytlbhpbaeokgmaaa
open Go Go.RowKit Eng Mem
set_option linter.unusedVariables false
set_option maxRecDepth 100000
def B_slices_DeleteFunc_int64_int64_5 (s0 : Value) (del1 : Value) (i5 : Int) (j6 : Int) (N : (Value × Value) → (Int × Int) → World → Prop) (D0 : (Value × Int × Unit) → World → Prop) (w : World) : Prop :=
  (QAll Try.prog (Builtin.len_ #[24] 3 #[s0]) (.int .i64) fun (x18_3 : Int) => (((decide (j6 < x18_3)) = true → (QAll Try.prog (Instr.indexAt 24 s0 (.int .i64 j6)) .any fun (x24_4 : Value) => (QSub Try.prog (Instr.loadAt 2 x24_4) w (.int .i64) fun (x25_5 : Int) => (callV Try.prog del1 #[(.int .i64 x25_5)] w (.one .bool) fun (x28_7 : Bool) w_6 => (((!x28_7) = true → (QAll Try.prog (Instr.indexAt 24 s0 (.int .i64 i5)) .any fun (x33_8 : Value) => (PrU Try.prog (Instr.storeAt 2 x33_8 (.int .i64 x25_5)) w_6 fun w_9 => N ((s0 : Value), (del1 : Value)) ((IntKind.i64.wrap (i5 + (1 : Int))), (IntKind.i64.wrap (j6 + (1 : Int)))) w_9))) ∧ ((!x28_7) = false → N ((s0 : Value), (del1 : Value)) (i5, (IntKind.i64.wrap (j6 + (1 : Int)))) w_6)))))) ∧ ((decide (j6 < x18_3)) = false → D0 ((s0 : Value), i5, ()) w)))

abbrev L_slices_DeleteFunc_int64_int64_5_e0 : List Slot := [.k .any, .junk, .junk, .junk, .junk, .k (.int .i64), .junk, .junk, .junk, .junk, .junk, .junk, .junk, .junk, .junk, .junk, .junk, .junk, .junk, .junk, .junk, .junk, .junk, .junk, .junk, .junk, .junk, .junk, .junk, .junk, .junk, .junk, .junk, .junk, .junk, .junk, .junk, .junk, .junk, .junk, .junk, .junk]

abbrev L_slices_DeleteFunc_int64_int64_5_sp : List Slot := [.k .any, .k .any, .junk, .junk, .junk, .k (.int .i64), .k (.int .i64), .junk, .junk, .junk, .junk, .junk, .junk, .junk, .junk, .junk, .junk, .junk, .junk, .junk, .junk, .junk, .junk, .junk, .junk, .junk, .junk, .junk, .junk, .junk, .junk, .junk, .junk, .junk, .junk, .junk, .junk, .junk, .junk, .junk, .junk, .junk]
abbrev L_slices_DeleteFunc_int64_int64_5_ex : List (Nat × List Slot) := [(0, L_slices_DeleteFunc_int64_int64_5_e0)]
abbrev L_slices_DeleteFunc_int64_int64_5_rt : List Slot := [.junk, .junk, .junk, .junk, .junk, .junk, .junk, .junk, .junk, .junk, .junk, .junk, .junk, .junk, .junk, .junk, .junk, .junk, .junk, .junk, .junk, .junk, .junk, .junk, .junk, .junk, .junk, .junk, .junk, .junk, .junk, .junk, .junk, .junk, .junk, .junk, .junk, .junk, .junk, .junk, .junk, .junk]

def L_slices_DeleteFunc_int64_int64_5_b (Φ : Post) (u : (Value × Value)) (N : (Value × Value) → (Int × Int) → World → Prop) (s : (Int × Int)) (w : World) : Prop :=
  B_slices_DeleteFunc_int64_int64_5 u.1 u.2 s.1 s.2 N (fun v w => ∀ j : Nat → Value, Φ (.exit 0) (mkT j 0 L_slices_DeleteFunc_int64_int64_5_e0 v) w) w

theorem L_slices_DeleteFunc_int64_int64_5_eq (j : Nat → Value) (u : (Value × Value)) (s : (Int × Int)) (N : (Value × Value) → (Int × Int) → World → Prop) (D0 : (Value × Int × Unit) → World → Prop) (R : (Unit) → World → Prop) (w : World) :
    W Try.prog ty (fun _ _ _ _ => False) (loopAt Try.f81 5) (loopPost L_slices_DeleteFunc_int64_int64_5_sp [(0, (⟨L_slices_DeleteFunc_int64_int64_5_e0, D0⟩ : Door))] ⟨L_slices_DeleteFunc_int64_int64_5_rt, R⟩ (fun v w => N ((fun v => (v.1, v.2.1)) v) ((fun v => (v.2.2.1, v.2.2.2.1)) v) w)) (mkT j 0 L_slices_DeleteFunc_int64_int64_5_sp ((fun u s => (u.1, u.2, s.1, s.2, ())) u s)) w =
    B_slices_DeleteFunc_int64_int64_5 u.1 u.2 s.1 s.2 N D0 w := by
  kernel_rfl

def O_slices_DeleteFunc_int64_int64_1 : Code → Post → List SV → World → Prop :=
  orc 5 (loopAt Try.f81 5) L_slices_DeleteFunc_int64_int64_5_sp (fun Φ fr w => LOOP (U := (Value × Value)) (S := (Int × Int)) ((fun v => (v.1, v.2.1)) (extT L_slices_DeleteFunc_int64_int64_5_sp fr)) (L_slices_DeleteFunc_int64_int64_5_b Φ ((fun v => (v.1, v.2.1)) (extT L_slices_DeleteFunc_int64_int64_5_sp fr))) ((fun v => (v.2.2.1, v.2.2.2.1)) (extT L_slices_DeleteFunc_int64_int64_5_sp fr)) w) (fun _ _ _ _ => False)

theorem O_slices_DeleteFunc_int64_int64_1_ok : Sound Try.prog O_slices_DeleteFunc_int64_int64_1 :=
  orc_ok (sound_none _) fun Φ fr w hs h => loop_ok (ty := ty) follows (sound_none _) L_slices_DeleteFunc_int64_int64_5_sp (fun v => (v.1, v.2.1)) (fun v => (v.2.2.1, v.2.2.2.1)) (fun u s => (u.1, u.2, s.1, s.2, ())) (fun _ => rfl) L_slices_DeleteFunc_int64_int64_5_ex L_slices_DeleteFunc_int64_int64_5_rt (body := L_slices_DeleteFunc_int64_int64_5_b Φ) (fun j u s w N hb => by
    have e := L_slices_DeleteFunc_int64_int64_5_eq j u s N (doorOf Φ (.exit 0) L_slices_DeleteFunc_int64_int64_5_e0).D (doorOf Φ .ret L_slices_DeleteFunc_int64_int64_5_rt).D w
    exact Eq.mpr e hb) hs h

def V_slices_DeleteFunc_int64_int64 (s0 : Value) (del1 : Value) (w : World) (K : Value → World → Prop) : Prop :=
  (Fc Try.prog 86 #[s0, del1] w (.one (.int .i64)) fun (x10_2 : Int) w_1 => (((x10_2 == (-1 : Int)) = true → K (s0 : Value) w_1) ∧ ((x10_2 == (-1 : Int)) = false → (At (loopAt Try.f81 5) (loopAt Try.f81 5) (LOOP (U := (Value × Value)) (S := (Int × Int)) ((s0 : Value), (del1 : Value)) (fun N_18 s_19 w_20 => B_slices_DeleteFunc_int64_int64_5 (s0 : Value) (del1 : Value) s_19.1 s_19.2 N_18 (fun (v_11 : (Value × Int × Unit)) w_12 => ∀ _j_13 : Nat → Value, (QAll Try.prog (Instr.sliceAt 24 v_11.1 (some (.int .i64 v_11.2.1)) none none) .any fun (x38_14 : Value) => (Pr Try.prog (Builtin.clear_ #[24] 0 #[x38_14]) w_12 .unit fun (u_16 : Unit) w_15 => (QAll Try.prog (Instr.sliceAt 24 v_11.1 none (some (.int .i64 v_11.2.1)) none) .any fun (x41_17 : Value) => K (x41_17 : Value) w_15)))) w_20) (x10_2, (IntKind.i64.wrap (x10_2 + (1 : Int)))) w_1)))))

theorem eq_slices_DeleteFunc_int64_int64 (s0 : Value) (del1 : Value) (w : World) (K : Value → World → Prop) :
    W Try.prog ty O_slices_DeleteFunc_int64_int64_1 (bodyOf Try.f81) (fnPost Try.prog Try.f81.results.toList (.one .any) K) (frame0 [s0, del1] 42) w = V_slices_DeleteFunc_int64_int64 s0 del1 w K := by
  kernel_rfl

theorem body_slices_DeleteFunc_int64_int64 : Try.f81.body = some (bodyOf Try.f81) := by kernel_rfl
theorem name_slices_DeleteFunc_int64_int64 : (Try.f81.name == "runtime.NumGoroutine") = false := by kernel_rfl

theorem walk_slices_DeleteFunc_int64_int64 (s0 : Value) (del1 : Value) {w : World} {K : Value → World → Prop} (h : V_slices_DeleteFunc_int64_int64 s0 del1 w K) : Fc Try.prog 81 #[s0, del1] w (.one .any) K :=
  fn_ok follows O_slices_DeleteFunc_int64_int64_1_ok Try.func81 name_slices_DeleteFunc_int64_int64 body_slices_DeleteFunc_int64_int64 Try.ntmps81 [s0, del1] (Eq.mpr (eq_slices_DeleteFunc_int64_int64 s0 del1 w K) h)

-- uses S9NbR
theorem filt_step {g : Int → Bool} {l : List Int} {n : Nat} (h : n < l.length) : (l.take (n + 1)).filter (fun x => !g x) = (l.take n).filter (fun x => !g x) ++ (if g l[n] then [] else [l[n]]) := by
  rw [List.take_add_one, List.getElem?_eq_getElem h, Option.toList_some, List.filter_append]
  cases hg : g l[n] <;> simp [hg]
/-- In place: what is not deleted, in its order. -/
theorem c_slices_DeleteFunc_int64_int64 {v f : Value} {b : Nat} {l : List Int} (g : Int → Bool) {w : World} {K : Value → World → Prop} (h : OwnI w b v l) (hl : l.length ≤ 1099511627776)
    (hf : ∀ x (w' : World) (K' : Bool → World → Prop), K' (g x) w' → callV Try.prog f #[.int .i64 x] w' (.one .bool) K')
    (hK : ∀ v' w', Mod [b] w w' → OwnI w' b v' (l.filter fun x => !g x) → K v' w') :
    Fc Try.prog F_slices_DeleteFunc_int64_int64 #[v, f] w (.one .any) K := by
  refine walk_slices_DeleteFunc_int64_int64 _ _ (c_slices_IndexFunc_int64_int64 g (own_slI h (by omega)) (fun x _ w' K' _ hk => hf x w' K' (hk _ (Below.refl _ _))) fun w1 r q1 hr => ?_)
  have h1 := h.keep q1
  have m1 := mod_of_below q1 [b]
  rcases hr with ⟨rfl, hn⟩ | ⟨i, rfl, hi, hg, hbe⟩
  · refine ⟨fun _ => ?_, fun e => absurd rfl (eq_f e)⟩
    have e : l.filter (fun x => !g x) = l := List.filter_eq_self.2 fun x hx => by have := List.any_eq_false.1 hn x hx; simpa using this
    refine hK v w1 m1 ?_
    rw [e]; exact h1
  refine ⟨fun e => absurd (eq_t e) (by omega), fun _ => ?_⟩
  have hgi : l.getD i 0 = l[i] := by rw [List.getD_eq_getElem?_getD, List.getElem?_eq_getElem hi]; rfl
  rw [hgi] at hg
  have hpre : (l.take (i + 1)).filter (fun x => !g x) = l.take i := by
    rw [filt_step hi, if_pos hg, List.append_nil, List.filter_eq_self.2]
    intro x hx
    obtain ⟨j, hj, rfl⟩ := List.getElem_of_mem hx
    have hji : j < i := by simp at hj; omega
    have := hbe j hji
    rw [List.getD_eq_getElem?_getD, List.getElem?_eq_getElem (by omega)] at this
    simp at this
    simp [this]
  refine lp (fun s w' => ∃ (k n : Nat) (m : List Int), s.1 = (k : Int) ∧ s.2 = (n : Int) ∧ k < n ∧ n ≤ l.length ∧ Mod [b] w w' ∧ OwnI w' b v m ∧ m.length = l.length ∧ m.take k = (l.take n).filter (fun x => !g x) ∧ m.drop n = l.drop n) (fun s _ => ((l.length : Int) - s.2).toNat)
    ⟨i, i + 1, l, rfl, (by rw [wrap_small (by omega) (by omega)]; simp), by omega, by omega, m1, h1, rfl, hpre.symm, rfl⟩ ?_
  rintro ⟨i_, j_⟩ w2 N ⟨k, n, m, ek, en, kn, nl, m2, o2, ml, mt, md⟩ hN
  simp only at ek en
  subst ek; subst en
  unfold B_slices_DeleteFunc_int64_int64_5
  dsimp only
  have sl2 := own_slI o2 (by omega)
  refine lenI sl2 ⟨fun hlt => ?_, fun hge => ?_⟩
  · have hlt : (n : Int) < m.length := dec_t hlt
    have hnl : n < l.length := by omega
    have hx0 : m[n]? = l[n]? := by have := congrArg (fun t : List Int => t[0]?) md; simpa using this
    have hx : m.getD ((n : Nat) : Int).toNat 0 = l[n] := by
      rw [Int.toNat_natCast, List.getD_eq_getElem?_getD, hx0, List.getElem?_eq_getElem hnl]; rfl
    refine atI sl2 (by omega) hlt (hf _ _ _ ?_)
    rw [hx]
    refine ⟨fun hd => ?_, fun hd => ?_⟩
    · have hd := not_t hd
      refine putI o2 (by omega) (by omega) fun w3 m3 s3 o3 => ?_
      rw [wrap_small (by omega) (by omega), wrap_small (by omega) (by omega)]
      refine hN _ _ ⟨k + 1, n + 1, _, by simp, by simp, by omega, by omega, m2.trans m3, o3, by simpa using ml, ?_, ?_⟩ (by simp only; omega)
      · rw [Int.toNat_natCast, filt_step hnl, if_neg (by rw [hd]; simp), ← mt, List.take_add_one, List.getElem?_set_self (by omega), List.take_set_of_le (Nat.le_refl k)]
        rfl
      · rw [Int.toNat_natCast, List.drop_set_of_lt (by omega), ← List.drop_drop, md, List.drop_drop]
    · have hd := not_f hd
      rw [wrap_small (by omega) (by omega)]
      refine hN _ _ ⟨k, n + 1, m, rfl, by simp, by omega, by omega, m2, o2, ml, ?_, ?_⟩ (by simp only; omega)
      · rw [filt_step hnl, if_pos hd, List.append_nil, mt]
      · rw [← List.drop_drop, md, List.drop_drop]
  · have hge : ¬ (n : Int) < m.length := dec_f hge
    intro _
    refine delEnd o2 (by omega) (by omega) fun v' w3 m3 s3 o3 => hK v' w3 (m2.trans m3) ?_
    rw [Int.toNat_natCast, mt, List.take_of_length_le (by omega)] at o3
    exact o3

end Go.Proofs.Ytlbhpbaeokgmaaa

/- The reading of math_bits_Len64, and its contract. No condition. -/
namespace Go.Proofs.Ytlbhpbaeokgmaaa
open Go Go.RowKit Eng Mem
set_option linter.unusedVariables false
set_option maxRecDepth 100000
def V_math_bits_Len64 (x0 : Int) (w : World) (K : Int → World → Prop) : Prop :=
  (((decide (x0 ≥ (4294967296 : Int))) = true → (0 ≤ (32 : Int) ∧ (((decide ((Int.fdiv x0 (2 ^ min (Int.toNat (32 : Int)) 64)) ≥ (65536 : Int))) = true → (0 ≤ (16 : Int) ∧ (((decide ((Int.fdiv (Int.fdiv x0 (2 ^ min (Int.toNat (32 : Int)) 64)) (2 ^ min (Int.toNat (16 : Int)) 64)) ≥ (256 : Int))) = true → (0 ≤ (8 : Int) ∧ (QAll Try.prog (convert 85 5 (.int .u64 (Int.fdiv (Int.fdiv (Int.fdiv x0 (2 ^ min (Int.toNat (32 : Int)) 64)) (2 ^ min (Int.toNat (16 : Int)) 64)) (2 ^ min (Int.toNat (8 : Int)) 64)))) (.int .u8) fun (x21_1 : Int) => (QAll Try.prog (Instr.index 9 (.string (⟨#[0, 1, 2, 2, 3, 3, 3, 3, 4, 4, 4, 4, 4, 4, 4, 4, 5, 5, 5, 5, 5, 5, 5, 5, 5, 5, 5, 5, 5, 5, 5, 5, 6, 6, 6, 6, 6, 6, 6, 6, 6, 6, 6, 6, 6, 6, 6, 6, 6, 6, 6, 6, 6, 6, 6, 6, 6, 6, 6, 6, 6, 6, 6, 6, 7, 7, 7, 7, 7, 7, 7, 7, 7, 7, 7, 7, 7, 7, 7, 7, 7, 7, 7, 7, 7, 7, 7, 7, 7, 7, 7, 7, 7, 7, 7, 7, 7, 7, 7, 7, 7, 7, 7, 7, 7, 7, 7, 7, 7, 7, 7, 7, 7, 7, 7, 7, 7, 7, 7, 7, 7, 7, 7, 7, 7, 7, 7, 7, 8, 8, 8, 8, 8, 8, 8, 8, 8, 8, 8, 8, 8, 8, 8, 8, 8, 8, 8, 8, 8, 8, 8, 8, 8, 8, 8, 8, 8, 8, 8, 8, 8, 8, 8, 8, 8, 8, 8, 8, 8, 8, 8, 8, 8, 8, 8, 8, 8, 8, 8, 8, 8, 8, 8, 8, 8, 8, 8, 8, 8, 8, 8, 8, 8, 8, 8, 8, 8, 8, 8, 8, 8, 8, 8, 8, 8, 8, 8, 8, 8, 8, 8, 8, 8, 8, 8, 8, 8, 8, 8, 8, 8, 8, 8, 8, 8, 8, 8, 8, 8, 8, 8, 8, 8, 8, 8, 8, 8, 8, 8, 8, 8, 8, 8, 8, 8, 8, 8, 8, 8, 8, 8, 8, 8, 8, 8, 8]⟩)) (.int .u8 x21_1)) (.int .u8) fun (x22_2 : Int) => (QAll Try.prog (convert 5 3 (.int .u8 x22_2)) (.int .i64) fun (x23_3 : Int) => K (IntKind.i64.wrap ((IntKind.i64.wrap ((IntKind.i64.wrap ((32 : Int) + (16 : Int))) + (8 : Int))) + x23_3)) w))))) ∧ ((decide ((Int.fdiv (Int.fdiv x0 (2 ^ min (Int.toNat (32 : Int)) 64)) (2 ^ min (Int.toNat (16 : Int)) 64)) ≥ (256 : Int))) = false → (QAll Try.prog (convert 85 5 (.int .u64 (Int.fdiv (Int.fdiv x0 (2 ^ min (Int.toNat (32 : Int)) 64)) (2 ^ min (Int.toNat (16 : Int)) 64)))) (.int .u8) fun (x21_4 : Int) => (QAll Try.prog (Instr.index 9 (.string (⟨#[0, 1, 2, 2, 3, 3, 3, 3, 4, 4, 4, 4, 4, 4, 4, 4, 5, 5, 5, 5, 5, 5, 5, 5, 5, 5, 5, 5, 5, 5, 5, 5, 6, 6, 6, 6, 6, 6, 6, 6, 6, 6, 6, 6, 6, 6, 6, 6, 6, 6, 6, 6, 6, 6, 6, 6, 6, 6, 6, 6, 6, 6, 6, 6, 7, 7, 7, 7, 7, 7, 7, 7, 7, 7, 7, 7, 7, 7, 7, 7, 7, 7, 7, 7, 7, 7, 7, 7, 7, 7, 7, 7, 7, 7, 7, 7, 7, 7, 7, 7, 7, 7, 7, 7, 7, 7, 7, 7, 7, 7, 7, 7, 7, 7, 7, 7, 7, 7, 7, 7, 7, 7, 7, 7, 7, 7, 7, 7, 8, 8, 8, 8, 8, 8, 8, 8, 8, 8, 8, 8, 8, 8, 8, 8, 8, 8, 8, 8, 8, 8, 8, 8, 8, 8, 8, 8, 8, 8, 8, 8, 8, 8, 8, 8, 8, 8, 8, 8, 8, 8, 8, 8, 8, 8, 8, 8, 8, 8, 8, 8, 8, 8, 8, 8, 8, 8, 8, 8, 8, 8, 8, 8, 8, 8, 8, 8, 8, 8, 8, 8, 8, 8, 8, 8, 8, 8, 8, 8, 8, 8, 8, 8, 8, 8, 8, 8, 8, 8, 8, 8, 8, 8, 8, 8, 8, 8, 8, 8, 8, 8, 8, 8, 8, 8, 8, 8, 8, 8, 8, 8, 8, 8, 8, 8, 8, 8, 8, 8, 8, 8, 8, 8, 8, 8, 8, 8]⟩)) (.int .u8 x21_4)) (.int .u8) fun (x22_5 : Int) => (QAll Try.prog (convert 5 3 (.int .u8 x22_5)) (.int .i64) fun (x23_6 : Int) => K (IntKind.i64.wrap ((IntKind.i64.wrap ((32 : Int) + (16 : Int))) + x23_6)) w))))))) ∧ ((decide ((Int.fdiv x0 (2 ^ min (Int.toNat (32 : Int)) 64)) ≥ (65536 : Int))) = false → (((decide ((Int.fdiv x0 (2 ^ min (Int.toNat (32 : Int)) 64)) ≥ (256 : Int))) = true → (0 ≤ (8 : Int) ∧ (QAll Try.prog (convert 85 5 (.int .u64 (Int.fdiv (Int.fdiv x0 (2 ^ min (Int.toNat (32 : Int)) 64)) (2 ^ min (Int.toNat (8 : Int)) 64)))) (.int .u8) fun (x21_7 : Int) => (QAll Try.prog (Instr.index 9 (.string (⟨#[0, 1, 2, 2, 3, 3, 3, 3, 4, 4, 4, 4, 4, 4, 4, 4, 5, 5, 5, 5, 5, 5, 5, 5, 5, 5, 5, 5, 5, 5, 5, 5, 6, 6, 6, 6, 6, 6, 6, 6, 6, 6, 6, 6, 6, 6, 6, 6, 6, 6, 6, 6, 6, 6, 6, 6, 6, 6, 6, 6, 6, 6, 6, 6, 7, 7, 7, 7, 7, 7, 7, 7, 7, 7, 7, 7, 7, 7, 7, 7, 7, 7, 7, 7, 7, 7, 7, 7, 7, 7, 7, 7, 7, 7, 7, 7, 7, 7, 7, 7, 7, 7, 7, 7, 7, 7, 7, 7, 7, 7, 7, 7, 7, 7, 7, 7, 7, 7, 7, 7, 7, 7, 7, 7, 7, 7, 7, 7, 8, 8, 8, 8, 8, 8, 8, 8, 8, 8, 8, 8, 8, 8, 8, 8, 8, 8, 8, 8, 8, 8, 8, 8, 8, 8, 8, 8, 8, 8, 8, 8, 8, 8, 8, 8, 8, 8, 8, 8, 8, 8, 8, 8, 8, 8, 8, 8, 8, 8, 8, 8, 8, 8, 8, 8, 8, 8, 8, 8, 8, 8, 8, 8, 8, 8, 8, 8, 8, 8, 8, 8, 8, 8, 8, 8, 8, 8, 8, 8, 8, 8, 8, 8, 8, 8, 8, 8, 8, 8, 8, 8, 8, 8, 8, 8, 8, 8, 8, 8, 8, 8, 8, 8, 8, 8, 8, 8, 8, 8, 8, 8, 8, 8, 8, 8, 8, 8, 8, 8, 8, 8, 8, 8, 8, 8, 8, 8]⟩)) (.int .u8 x21_7)) (.int .u8) fun (x22_8 : Int) => (QAll Try.prog (convert 5 3 (.int .u8 x22_8)) (.int .i64) fun (x23_9 : Int) => K (IntKind.i64.wrap ((IntKind.i64.wrap ((32 : Int) + (8 : Int))) + x23_9)) w))))) ∧ ((decide ((Int.fdiv x0 (2 ^ min (Int.toNat (32 : Int)) 64)) ≥ (256 : Int))) = false → (QAll Try.prog (convert 85 5 (.int .u64 (Int.fdiv x0 (2 ^ min (Int.toNat (32 : Int)) 64)))) (.int .u8) fun (x21_10 : Int) => (QAll Try.prog (Instr.index 9 (.string (⟨#[0, 1, 2, 2, 3, 3, 3, 3, 4, 4, 4, 4, 4, 4, 4, 4, 5, 5, 5, 5, 5, 5, 5, 5, 5, 5, 5, 5, 5, 5, 5, 5, 6, 6, 6, 6, 6, 6, 6, 6, 6, 6, 6, 6, 6, 6, 6, 6, 6, 6, 6, 6, 6, 6, 6, 6, 6, 6, 6, 6, 6, 6, 6, 6, 7, 7, 7, 7, 7, 7, 7, 7, 7, 7, 7, 7, 7, 7, 7, 7, 7, 7, 7, 7, 7, 7, 7, 7, 7, 7, 7, 7, 7, 7, 7, 7, 7, 7, 7, 7, 7, 7, 7, 7, 7, 7, 7, 7, 7, 7, 7, 7, 7, 7, 7, 7, 7, 7, 7, 7, 7, 7, 7, 7, 7, 7, 7, 7, 8, 8, 8, 8, 8, 8, 8, 8, 8, 8, 8, 8, 8, 8, 8, 8, 8, 8, 8, 8, 8, 8, 8, 8, 8, 8, 8, 8, 8, 8, 8, 8, 8, 8, 8, 8, 8, 8, 8, 8, 8, 8, 8, 8, 8, 8, 8, 8, 8, 8, 8, 8, 8, 8, 8, 8, 8, 8, 8, 8, 8, 8, 8, 8, 8, 8, 8, 8, 8, 8, 8, 8, 8, 8, 8, 8, 8, 8, 8, 8, 8, 8, 8, 8, 8, 8, 8, 8, 8, 8, 8, 8, 8, 8, 8, 8, 8, 8, 8, 8, 8, 8, 8, 8, 8, 8, 8, 8, 8, 8, 8, 8, 8, 8, 8, 8, 8, 8, 8, 8, 8, 8, 8, 8, 8, 8, 8, 8]⟩)) (.int .u8 x21_10)) (.int .u8) fun (x22_11 : Int) => (QAll Try.prog (convert 5 3 (.int .u8 x22_11)) (.int .i64) fun (x23_12 : Int) => K (IntKind.i64.wrap ((32 : Int) + x23_12)) w))))))))) ∧ ((decide (x0 ≥ (4294967296 : Int))) = false → (((decide (x0 ≥ (65536 : Int))) = true → (0 ≤ (16 : Int) ∧ (((decide ((Int.fdiv x0 (2 ^ min (Int.toNat (16 : Int)) 64)) ≥ (256 : Int))) = true → (0 ≤ (8 : Int) ∧ (QAll Try.prog (convert 85 5 (.int .u64 (Int.fdiv (Int.fdiv x0 (2 ^ min (Int.toNat (16 : Int)) 64)) (2 ^ min (Int.toNat (8 : Int)) 64)))) (.int .u8) fun (x21_13 : Int) => (QAll Try.prog (Instr.index 9 (.string (⟨#[0, 1, 2, 2, 3, 3, 3, 3, 4, 4, 4, 4, 4, 4, 4, 4, 5, 5, 5, 5, 5, 5, 5, 5, 5, 5, 5, 5, 5, 5, 5, 5, 6, 6, 6, 6, 6, 6, 6, 6, 6, 6, 6, 6, 6, 6, 6, 6, 6, 6, 6, 6, 6, 6, 6, 6, 6, 6, 6, 6, 6, 6, 6, 6, 7, 7, 7, 7, 7, 7, 7, 7, 7, 7, 7, 7, 7, 7, 7, 7, 7, 7, 7, 7, 7, 7, 7, 7, 7, 7, 7, 7, 7, 7, 7, 7, 7, 7, 7, 7, 7, 7, 7, 7, 7, 7, 7, 7, 7, 7, 7, 7, 7, 7, 7, 7, 7, 7, 7, 7, 7, 7, 7, 7, 7, 7, 7, 7, 8, 8, 8, 8, 8, 8, 8, 8, 8, 8, 8, 8, 8, 8, 8, 8, 8, 8, 8, 8, 8, 8, 8, 8, 8, 8, 8, 8, 8, 8, 8, 8, 8, 8, 8, 8, 8, 8, 8, 8, 8, 8, 8, 8, 8, 8, 8, 8, 8, 8, 8, 8, 8, 8, 8, 8, 8, 8, 8, 8, 8, 8, 8, 8, 8, 8, 8, 8, 8, 8, 8, 8, 8, 8, 8, 8, 8, 8, 8, 8, 8, 8, 8, 8, 8, 8, 8, 8, 8, 8, 8, 8, 8, 8, 8, 8, 8, 8, 8, 8, 8, 8, 8, 8, 8, 8, 8, 8, 8, 8, 8, 8, 8, 8, 8, 8, 8, 8, 8, 8, 8, 8, 8, 8, 8, 8, 8, 8]⟩)) (.int .u8 x21_13)) (.int .u8) fun (x22_14 : Int) => (QAll Try.prog (convert 5 3 (.int .u8 x22_14)) (.int .i64) fun (x23_15 : Int) => K (IntKind.i64.wrap ((IntKind.i64.wrap ((IntKind.i64.wrap ((0 : Int) + (16 : Int))) + (8 : Int))) + x23_15)) w))))) ∧ ((decide ((Int.fdiv x0 (2 ^ min (Int.toNat (16 : Int)) 64)) ≥ (256 : Int))) = false → (QAll Try.prog (convert 85 5 (.int .u64 (Int.fdiv x0 (2 ^ min (Int.toNat (16 : Int)) 64)))) (.int .u8) fun (x21_16 : Int) => (QAll Try.prog (Instr.index 9 (.string (⟨#[0, 1, 2, 2, 3, 3, 3, 3, 4, 4, 4, 4, 4, 4, 4, 4, 5, 5, 5, 5, 5, 5, 5, 5, 5, 5, 5, 5, 5, 5, 5, 5, 6, 6, 6, 6, 6, 6, 6, 6, 6, 6, 6, 6, 6, 6, 6, 6, 6, 6, 6, 6, 6, 6, 6, 6, 6, 6, 6, 6, 6, 6, 6, 6, 7, 7, 7, 7, 7, 7, 7, 7, 7, 7, 7, 7, 7, 7, 7, 7, 7, 7, 7, 7, 7, 7, 7, 7, 7, 7, 7, 7, 7, 7, 7, 7, 7, 7, 7, 7, 7, 7, 7, 7, 7, 7, 7, 7, 7, 7, 7, 7, 7, 7, 7, 7, 7, 7, 7, 7, 7, 7, 7, 7, 7, 7, 7, 7, 8, 8, 8, 8, 8, 8, 8, 8, 8, 8, 8, 8, 8, 8, 8, 8, 8, 8, 8, 8, 8, 8, 8, 8, 8, 8, 8, 8, 8, 8, 8, 8, 8, 8, 8, 8, 8, 8, 8, 8, 8, 8, 8, 8, 8, 8, 8, 8, 8, 8, 8, 8, 8, 8, 8, 8, 8, 8, 8, 8, 8, 8, 8, 8, 8, 8, 8, 8, 8, 8, 8, 8, 8, 8, 8, 8, 8, 8, 8, 8, 8, 8, 8, 8, 8, 8, 8, 8, 8, 8, 8, 8, 8, 8, 8, 8, 8, 8, 8, 8, 8, 8, 8, 8, 8, 8, 8, 8, 8, 8, 8, 8, 8, 8, 8, 8, 8, 8, 8, 8, 8, 8, 8, 8, 8, 8, 8, 8]⟩)) (.int .u8 x21_16)) (.int .u8) fun (x22_17 : Int) => (QAll Try.prog (convert 5 3 (.int .u8 x22_17)) (.int .i64) fun (x23_18 : Int) => K (IntKind.i64.wrap ((IntKind.i64.wrap ((0 : Int) + (16 : Int))) + x23_18)) w))))))) ∧ ((decide (x0 ≥ (65536 : Int))) = false → (((decide (x0 ≥ (256 : Int))) = true → (0 ≤ (8 : Int) ∧ (QAll Try.prog (convert 85 5 (.int .u64 (Int.fdiv x0 (2 ^ min (Int.toNat (8 : Int)) 64)))) (.int .u8) fun (x21_19 : Int) => (QAll Try.prog (Instr.index 9 (.string (⟨#[0, 1, 2, 2, 3, 3, 3, 3, 4, 4, 4, 4, 4, 4, 4, 4, 5, 5, 5, 5, 5, 5, 5, 5, 5, 5, 5, 5, 5, 5, 5, 5, 6, 6, 6, 6, 6, 6, 6, 6, 6, 6, 6, 6, 6, 6, 6, 6, 6, 6, 6, 6, 6, 6, 6, 6, 6, 6, 6, 6, 6, 6, 6, 6, 7, 7, 7, 7, 7, 7, 7, 7, 7, 7, 7, 7, 7, 7, 7, 7, 7, 7, 7, 7, 7, 7, 7, 7, 7, 7, 7, 7, 7, 7, 7, 7, 7, 7, 7, 7, 7, 7, 7, 7, 7, 7, 7, 7, 7, 7, 7, 7, 7, 7, 7, 7, 7, 7, 7, 7, 7, 7, 7, 7, 7, 7, 7, 7, 8, 8, 8, 8, 8, 8, 8, 8, 8, 8, 8, 8, 8, 8, 8, 8, 8, 8, 8, 8, 8, 8, 8, 8, 8, 8, 8, 8, 8, 8, 8, 8, 8, 8, 8, 8, 8, 8, 8, 8, 8, 8, 8, 8, 8, 8, 8, 8, 8, 8, 8, 8, 8, 8, 8, 8, 8, 8, 8, 8, 8, 8, 8, 8, 8, 8, 8, 8, 8, 8, 8, 8, 8, 8, 8, 8, 8, 8, 8, 8, 8, 8, 8, 8, 8, 8, 8, 8, 8, 8, 8, 8, 8, 8, 8, 8, 8, 8, 8, 8, 8, 8, 8, 8, 8, 8, 8, 8, 8, 8, 8, 8, 8, 8, 8, 8, 8, 8, 8, 8, 8, 8, 8, 8, 8, 8, 8, 8]⟩)) (.int .u8 x21_19)) (.int .u8) fun (x22_20 : Int) => (QAll Try.prog (convert 5 3 (.int .u8 x22_20)) (.int .i64) fun (x23_21 : Int) => K (IntKind.i64.wrap ((IntKind.i64.wrap ((0 : Int) + (8 : Int))) + x23_21)) w))))) ∧ ((decide (x0 ≥ (256 : Int))) = false → (QAll Try.prog (convert 85 5 (.int .u64 x0)) (.int .u8) fun (x21_22 : Int) => (QAll Try.prog (Instr.index 9 (.string (⟨#[0, 1, 2, 2, 3, 3, 3, 3, 4, 4, 4, 4, 4, 4, 4, 4, 5, 5, 5, 5, 5, 5, 5, 5, 5, 5, 5, 5, 5, 5, 5, 5, 6, 6, 6, 6, 6, 6, 6, 6, 6, 6, 6, 6, 6, 6, 6, 6, 6, 6, 6, 6, 6, 6, 6, 6, 6, 6, 6, 6, 6, 6, 6, 6, 7, 7, 7, 7, 7, 7, 7, 7, 7, 7, 7, 7, 7, 7, 7, 7, 7, 7, 7, 7, 7, 7, 7, 7, 7, 7, 7, 7, 7, 7, 7, 7, 7, 7, 7, 7, 7, 7, 7, 7, 7, 7, 7, 7, 7, 7, 7, 7, 7, 7, 7, 7, 7, 7, 7, 7, 7, 7, 7, 7, 7, 7, 7, 7, 8, 8, 8, 8, 8, 8, 8, 8, 8, 8, 8, 8, 8, 8, 8, 8, 8, 8, 8, 8, 8, 8, 8, 8, 8, 8, 8, 8, 8, 8, 8, 8, 8, 8, 8, 8, 8, 8, 8, 8, 8, 8, 8, 8, 8, 8, 8, 8, 8, 8, 8, 8, 8, 8, 8, 8, 8, 8, 8, 8, 8, 8, 8, 8, 8, 8, 8, 8, 8, 8, 8, 8, 8, 8, 8, 8, 8, 8, 8, 8, 8, 8, 8, 8, 8, 8, 8, 8, 8, 8, 8, 8, 8, 8, 8, 8, 8, 8, 8, 8, 8, 8, 8, 8, 8, 8, 8, 8, 8, 8, 8, 8, 8, 8, 8, 8, 8, 8, 8, 8, 8, 8, 8, 8, 8, 8, 8, 8]⟩)) (.int .u8 x21_22)) (.int .u8) fun (x22_23 : Int) => (QAll Try.prog (convert 5 3 (.int .u8 x22_23)) (.int .i64) fun (x23_24 : Int) => K (IntKind.i64.wrap ((0 : Int) + x23_24)) w)))))))))

theorem eq_math_bits_Len64 (x0 : Int) (w : World) (K : Int → World → Prop) :
    W Try.prog ty (fun _ _ _ _ => False) (bodyOf Try.f100) (fnPost Try.prog Try.f100.results.toList (.one (.int .i64)) K) (frame0 [(.int .u64 x0)] 25) w = V_math_bits_Len64 x0 w K := by
  kernel_rfl

theorem body_math_bits_Len64 : Try.f100.body = some (bodyOf Try.f100) := by kernel_rfl
theorem name_math_bits_Len64 : (Try.f100.name == "runtime.NumGoroutine") = false := by kernel_rfl

theorem walk_math_bits_Len64 (x0 : Int) {w : World} {K : Int → World → Prop} (h : V_math_bits_Len64 x0 w K) : Fc Try.prog 100 #[(.int .u64 x0)] w (.one (.int .i64)) K :=
  fn_ok follows (sound_none _) Try.func100 name_math_bits_Len64 body_math_bits_Len64 Try.ntmps100 [(.int .u64 x0)] (Eq.mpr (eq_math_bits_Len64 x0 w K) h)

-- uses S9NbR
/-- Of a number below 256: some number. -/
theorem c_math_bits_Len64 {x : Int} {w : World} {K : Int → World → Prop} (h0 : 0 ≤ x) (h1 : x < 256) (hK : ∀ n, K n w) : Fc Try.prog F_math_bits_Len64 #[.int .u64 x] w (.one (.int .i64)) K := by
  refine walk_math_bits_Len64 _ ⟨fun e => absurd (dec_t e) (by omega), fun _ => ⟨fun e => absurd (dec_t e) (by omega), fun _ => ⟨fun e => absurd (dec_t e) (by omega), fun _ => ?_⟩⟩⟩
  refine cvt (by rw [Try.underlying85]; rfl) Try.underlyingTB ?_
  rw [wrap_u8 h0 h1]
  exact ixStr h0 h1 fun b => cvt (by rw [Try.underlyingTB]; rfl) Try.underlying3 (hK _)

end Go.Proofs.Ytlbhpbaeokgmaaa

/- The reading of math_bits_Len, and its contract. No condition. -/
namespace Go.Proofs.Ytlbhpbaeokgmaaa
open Go Go.RowKit Eng Mem
set_option linter.unusedVariables false
set_option maxRecDepth 100000
def V_math_bits_Len (x0 : Int) (w : World) (K : Int → World → Prop) : Prop :=
  (Fc Try.prog 100 #[(.int .u64 x0)] w (.one (.int .i64)) fun (x7_2 : Int) w_1 => K x7_2 w_1)

theorem eq_math_bits_Len (x0 : Int) (w : World) (K : Int → World → Prop) :
    W Try.prog ty (fun _ _ _ _ => False) (bodyOf Try.f88) (fnPost Try.prog Try.f88.results.toList (.one (.int .i64)) K) (frame0 [(.int .u64 x0)] 8) w = V_math_bits_Len x0 w K := by
  kernel_rfl

theorem body_math_bits_Len : Try.f88.body = some (bodyOf Try.f88) := by kernel_rfl
theorem name_math_bits_Len : (Try.f88.name == "runtime.NumGoroutine") = false := by kernel_rfl

theorem walk_math_bits_Len (x0 : Int) {w : World} {K : Int → World → Prop} (h : V_math_bits_Len x0 w K) : Fc Try.prog 88 #[(.int .u64 x0)] w (.one (.int .i64)) K :=
  fn_ok follows (sound_none _) Try.func88 name_math_bits_Len body_math_bits_Len Try.ntmps88 [(.int .u64 x0)] (Eq.mpr (eq_math_bits_Len x0 w K) h)

-- uses S9NbR
theorem c_math_bits_Len {x : Int} {w : World} {K : Int → World → Prop} (h0 : 0 ≤ x) (h1 : x < 256) (hK : ∀ n, K n w) : Fc Try.prog F_math_bits_Len #[.int .u64 x] w (.one (.int .i64)) K :=
  walk_math_bits_Len _ (c_math_bits_Len64 h0 h1 hK)

end Go.Proofs.Ytlbhpbaeokgmaaa

/- The reading of cmp_isNaN_int64, and its contract. No condition. -/
namespace Go.Proofs.Ytlbhpbaeokgmaaa
open Go Go.RowKit Eng Mem
set_option linter.unusedVariables false
set_option maxRecDepth 100000
def V_cmp_isNaN_int64 (x0 : Int) (w : World) (K : Bool → World → Prop) : Prop :=
  K (x0 != x0) w

theorem eq_cmp_isNaN_int64 (x0 : Int) (w : World) (K : Bool → World → Prop) :
    W Try.prog ty (fun _ _ _ _ => False) (bodyOf Try.f106) (fnPost Try.prog Try.f106.results.toList (.one .bool) K) (frame0 [(.int .i64 x0)] 6) w = V_cmp_isNaN_int64 x0 w K := by
  kernel_rfl

theorem body_cmp_isNaN_int64 : Try.f106.body = some (bodyOf Try.f106) := by kernel_rfl
theorem name_cmp_isNaN_int64 : (Try.f106.name == "runtime.NumGoroutine") = false := by kernel_rfl

theorem walk_cmp_isNaN_int64 (x0 : Int) {w : World} {K : Bool → World → Prop} (h : V_cmp_isNaN_int64 x0 w K) : Fc Try.prog 106 #[(.int .i64 x0)] w (.one .bool) K :=
  fn_ok follows (sound_none _) Try.func106 name_cmp_isNaN_int64 body_cmp_isNaN_int64 Try.ntmps106 [(.int .i64 x0)] (Eq.mpr (eq_cmp_isNaN_int64 x0 w K) h)

-- uses S2Sl
theorem c_cmp_isNaN_int64 {x : Int} {w : World} {K : Bool → World → Prop} (hK : K false w) : Fc Try.prog F_cmp_isNaN_int64 #[.int .i64 x] w (.one .bool) K :=
  walk_cmp_isNaN_int64 _ (by have : (x != x) = false := by simp
                             rw [V_cmp_isNaN_int64, this]; exact hK)

end Go.Proofs.Ytlbhpbaeokgmaaa

/- The reading of cmp_Less_int64, and its contract. No condition. -/
namespace Go.Proofs.Ytlbhpbaeokgmaaa
open Go Go.RowKit Eng Mem
set_option linter.unusedVariables false
set_option maxRecDepth 100000
def V_cmp_Less_int64 (x0 : Int) (y1 : Int) (w : World) (K : Bool → World → Prop) : Prop :=
  (Fc Try.prog 106 #[(.int .i64 x0)] w (.one .bool) fun (x6_2 : Bool) w_1 => ((x6_2 = true → (Fc Try.prog 106 #[(.int .i64 y1)] w_1 (.one .bool) fun (x9_4 : Bool) w_3 => (((!x9_4) = true → K true w_3) ∧ ((!x9_4) = false → K (decide (x0 < y1)) w_3)))) ∧ (x6_2 = false → K (decide (x0 < y1)) w_1)))

theorem eq_cmp_Less_int64 (x0 : Int) (y1 : Int) (w : World) (K : Bool → World → Prop) :
    W Try.prog ty (fun _ _ _ _ => False) (bodyOf Try.f96) (fnPost Try.prog Try.f96.results.toList (.one .bool) K) (frame0 [(.int .i64 x0), (.int .i64 y1)] 17) w = V_cmp_Less_int64 x0 y1 w K := by
  kernel_rfl

theorem body_cmp_Less_int64 : Try.f96.body = some (bodyOf Try.f96) := by kernel_rfl
theorem name_cmp_Less_int64 : (Try.f96.name == "runtime.NumGoroutine") = false := by kernel_rfl

theorem walk_cmp_Less_int64 (x0 : Int) (y1 : Int) {w : World} {K : Bool → World → Prop} (h : V_cmp_Less_int64 x0 y1 w K) : Fc Try.prog 96 #[(.int .i64 x0), (.int .i64 y1)] w (.one .bool) K :=
  fn_ok follows (sound_none _) Try.func96 name_cmp_Less_int64 body_cmp_Less_int64 Try.ntmps96 [(.int .i64 x0), (.int .i64 y1)] (Eq.mpr (eq_cmp_Less_int64 x0 y1 w K) h)

-- uses S2Sl
theorem c_cmp_Less_int64 {x y : Int} {w : World} {K : Bool → World → Prop} (hK : K (decide (x < y)) w) : Fc Try.prog F_cmp_Less_int64 #[.int .i64 x, .int .i64 y] w (.one .bool) K :=
  walk_cmp_Less_int64 _ _ (c_cmp_isNaN_int64 ⟨fun h => (by cases h), fun _ => hK⟩)

end Go.Proofs.Ytlbhpbaeokgmaaa

/- The reading of slices_insertionSortOrdered_int64, and its contract. No condition. -/
namespace Go.Proofs.Ytlbhpbaeokgmaaa
open Go Go.RowKit Eng Mem
set_option linter.unusedVariables false
set_option maxRecDepth 100000
def B_slices_insertionSortOrdered_int64_4 (data0 : Value) (a1 : Int) (b2 : Int) (i6 : Int) (j7 : Int) (N : (Value × Int × Int × Int) → Int → World → Prop) (D2 : (Value × Int × Int × Int × Unit) → World → Prop) (w : World) : Prop :=
  (∀ w_1, Drew w w_1 → (((decide (j7 > a1)) = true → (QAll Try.prog (Instr.indexAt 24 data0 (.int .i64 j7)) .any fun (x22_2 : Value) => (QSub Try.prog (Instr.loadAt 2 x22_2) w_1 (.int .i64) fun (x23_3 : Int) => (QAll Try.prog (Instr.indexAt 24 data0 (.int .i64 (IntKind.i64.wrap (j7 - (1 : Int))))) .any fun (x27_4 : Value) => (QSub Try.prog (Instr.loadAt 2 x27_4) w_1 (.int .i64) fun (x28_5 : Int) => (Fc Try.prog 96 #[(.int .i64 x23_3), (.int .i64 x28_5)] w_1 (.one .bool) fun (x29_7 : Bool) w_6 => ((x29_7 = true → (∀ w_8, Drew w_6 w_8 → (QAll Try.prog (Instr.indexAt 24 data0 (.int .i64 (IntKind.i64.wrap (j7 - (1 : Int))))) .any fun (x41_9 : Value) => (QSub Try.prog (Instr.loadAt 2 x41_9) w_8 (.int .i64) fun (x42_10 : Int) => (QAll Try.prog (Instr.indexAt 24 data0 (.int .i64 j7)) .any fun (x45_11 : Value) => (QSub Try.prog (Instr.loadAt 2 x45_11) w_8 (.int .i64) fun (x46_12 : Int) => (QAll Try.prog (Instr.indexAt 24 data0 (.int .i64 j7)) .any fun (x47_13 : Value) => (PrU Try.prog (Instr.storeAt 2 x47_13 (.int .i64 x42_10)) w_8 fun w_14 => (QAll Try.prog (Instr.indexAt 24 data0 (.int .i64 (IntKind.i64.wrap (j7 - (1 : Int))))) .any fun (x48_16 : Value) => (PrU Try.prog (Instr.storeAt 2 x48_16 (.int .i64 x46_12)) w_14 fun w_17 => N ((data0 : Value), a1, b2, i6) (IntKind.i64.wrap (j7 - (1 : Int))) w_17)))))))))) ∧ (x29_7 = false → D2 ((data0 : Value), a1, b2, i6, ()) w_6)))))))) ∧ ((decide (j7 > a1)) = false → D2 ((data0 : Value), a1, b2, i6, ()) w_1)))

abbrev L_slices_insertionSortOrdered_int64_4_e2 : List Slot := [.k .any, .k (.int .i64), .k (.int .i64), .junk, .junk, .junk, .k (.int .i64), .junk, .junk, .junk, .junk, .junk, .junk, .junk, .junk, .junk, .junk, .junk, .junk, .junk, .junk, .junk, .junk, .junk, .junk, .junk, .junk, .junk, .junk, .junk, .junk, .junk, .junk, .junk, .junk, .junk, .junk, .junk, .junk, .junk, .junk, .junk, .junk, .junk, .junk, .junk, .junk, .junk, .junk]

abbrev L_slices_insertionSortOrdered_int64_4_sp : List Slot := [.k .any, .k (.int .i64), .k (.int .i64), .junk, .junk, .junk, .k (.int .i64), .k (.int .i64), .junk, .junk, .junk, .junk, .junk, .junk, .junk, .junk, .junk, .junk, .junk, .junk, .junk, .junk, .junk, .junk, .junk, .junk, .junk, .junk, .junk, .junk, .junk, .junk, .junk, .junk, .junk, .junk, .junk, .junk, .junk, .junk, .junk, .junk, .junk, .junk, .junk, .junk, .junk, .junk, .junk]
abbrev L_slices_insertionSortOrdered_int64_4_ex : List (Nat × List Slot) := [(2, L_slices_insertionSortOrdered_int64_4_e2)]
abbrev L_slices_insertionSortOrdered_int64_4_rt : List Slot := [.junk, .junk, .junk, .junk, .junk, .junk, .junk, .junk, .junk, .junk, .junk, .junk, .junk, .junk, .junk, .junk, .junk, .junk, .junk, .junk, .junk, .junk, .junk, .junk, .junk, .junk, .junk, .junk, .junk, .junk, .junk, .junk, .junk, .junk, .junk, .junk, .junk, .junk, .junk, .junk, .junk, .junk, .junk, .junk, .junk, .junk, .junk, .junk, .junk]

def L_slices_insertionSortOrdered_int64_4_b (Φ : Post) (u : (Value × Int × Int × Int)) (N : (Value × Int × Int × Int) → Int → World → Prop) (s : Int) (w : World) : Prop :=
  B_slices_insertionSortOrdered_int64_4 u.1 u.2.1 u.2.2.1 u.2.2.2 s N (fun v w => ∀ j : Nat → Value, Φ (.exit 2) (mkT j 0 L_slices_insertionSortOrdered_int64_4_e2 v) w) w

theorem L_slices_insertionSortOrdered_int64_4_eq (j : Nat → Value) (u : (Value × Int × Int × Int)) (s : Int) (N : (Value × Int × Int × Int) → Int → World → Prop) (D2 : (Value × Int × Int × Int × Unit) → World → Prop) (R : (Unit) → World → Prop) (w : World) :
    W Try.prog ty (fun _ _ _ _ => False) (loopAt Try.f90 4) (loopPost L_slices_insertionSortOrdered_int64_4_sp [(2, (⟨L_slices_insertionSortOrdered_int64_4_e2, D2⟩ : Door))] ⟨L_slices_insertionSortOrdered_int64_4_rt, R⟩ (fun v w => N ((fun v => (v.1, v.2.1, v.2.2.1, v.2.2.2.1)) v) ((fun v => v.2.2.2.2.1) v) w)) (mkT j 0 L_slices_insertionSortOrdered_int64_4_sp ((fun u s => (u.1, u.2.1, u.2.2.1, u.2.2.2, s, ())) u s)) w =
    B_slices_insertionSortOrdered_int64_4 u.1 u.2.1 u.2.2.1 u.2.2.2 s N D2 w := by
  kernel_rfl

def O_slices_insertionSortOrdered_int64_1 : Code → Post → List SV → World → Prop :=
  orc 4 (loopAt Try.f90 4) L_slices_insertionSortOrdered_int64_4_sp (fun Φ fr w => LOOP (U := (Value × Int × Int × Int)) (S := Int) ((fun v => (v.1, v.2.1, v.2.2.1, v.2.2.2.1)) (extT L_slices_insertionSortOrdered_int64_4_sp fr)) (L_slices_insertionSortOrdered_int64_4_b Φ ((fun v => (v.1, v.2.1, v.2.2.1, v.2.2.2.1)) (extT L_slices_insertionSortOrdered_int64_4_sp fr))) ((fun v => v.2.2.2.2.1) (extT L_slices_insertionSortOrdered_int64_4_sp fr)) w) (fun _ _ _ _ => False)

theorem O_slices_insertionSortOrdered_int64_1_ok : Sound Try.prog O_slices_insertionSortOrdered_int64_1 :=
  orc_ok (sound_none _) fun Φ fr w hs h => loop_ok (ty := ty) follows (sound_none _) L_slices_insertionSortOrdered_int64_4_sp (fun v => (v.1, v.2.1, v.2.2.1, v.2.2.2.1)) (fun v => v.2.2.2.2.1) (fun u s => (u.1, u.2.1, u.2.2.1, u.2.2.2, s, ())) (fun _ => rfl) L_slices_insertionSortOrdered_int64_4_ex L_slices_insertionSortOrdered_int64_4_rt (body := L_slices_insertionSortOrdered_int64_4_b Φ) (fun j u s w N hb => by
    have e := L_slices_insertionSortOrdered_int64_4_eq j u s N (doorOf Φ (.exit 2) L_slices_insertionSortOrdered_int64_4_e2).D (doorOf Φ .ret L_slices_insertionSortOrdered_int64_4_rt).D w
    exact Eq.mpr e hb) hs h

def B_slices_insertionSortOrdered_int64_1 (data0 : Value) (a1 : Int) (b2 : Int) (i6 : Int) (N : (Value × Int × Int) → Int → World → Prop) (D0 : (Unit) → World → Prop) (w : World) : Prop :=
  (((decide (i6 < b2)) = true → (At (loopAt Try.f90 4) (loopAt Try.f90 4) (LOOP (U := (Value × Int × Int × Int)) (S := Int) ((data0 : Value), a1, b2, i6) (fun N_22 s_23 w_24 => B_slices_insertionSortOrdered_int64_4 (data0 : Value) a1 b2 i6 s_23 N_22 (fun (v_19 : (Value × Int × Int × Int × Unit)) w_20 => ∀ _j_21 : Nat → Value, N ((v_19.1 : Value), v_19.2.1, v_19.2.2.1) (IntKind.i64.wrap (v_19.2.2.2.1 + (1 : Int))) w_20) w_24) i6 w))) ∧ ((decide (i6 < b2)) = false → D0 () w))

abbrev L_slices_insertionSortOrdered_int64_1_e0 : List Slot := [.junk, .junk, .junk, .junk, .junk, .junk, .junk, .junk, .junk, .junk, .junk, .junk, .junk, .junk, .junk, .junk, .junk, .junk, .junk, .junk, .junk, .junk, .junk, .junk, .junk, .junk, .junk, .junk, .junk, .junk, .junk, .junk, .junk, .junk, .junk, .junk, .junk, .junk, .junk, .junk, .junk, .junk, .junk, .junk, .junk, .junk, .junk, .junk, .junk]

abbrev L_slices_insertionSortOrdered_int64_1_sp : List Slot := [.k .any, .k (.int .i64), .k (.int .i64), .junk, .junk, .junk, .k (.int .i64), .junk, .junk, .junk, .junk, .junk, .junk, .junk, .junk, .junk, .junk, .junk, .junk, .junk, .junk, .junk, .junk, .junk, .junk, .junk, .junk, .junk, .junk, .junk, .junk, .junk, .junk, .junk, .junk, .junk, .junk, .junk, .junk, .junk, .junk, .junk, .junk, .junk, .junk, .junk, .junk, .junk, .junk]
abbrev L_slices_insertionSortOrdered_int64_1_ex : List (Nat × List Slot) := [(0, L_slices_insertionSortOrdered_int64_1_e0)]
abbrev L_slices_insertionSortOrdered_int64_1_rt : List Slot := [.junk, .junk, .junk, .junk, .junk, .junk, .junk, .junk, .junk, .junk, .junk, .junk, .junk, .junk, .junk, .junk, .junk, .junk, .junk, .junk, .junk, .junk, .junk, .junk, .junk, .junk, .junk, .junk, .junk, .junk, .junk, .junk, .junk, .junk, .junk, .junk, .junk, .junk, .junk, .junk, .junk, .junk, .junk, .junk, .junk, .junk, .junk, .junk, .junk]

def L_slices_insertionSortOrdered_int64_1_b (Φ : Post) (u : (Value × Int × Int)) (N : (Value × Int × Int) → Int → World → Prop) (s : Int) (w : World) : Prop :=
  B_slices_insertionSortOrdered_int64_1 u.1 u.2.1 u.2.2 s N (fun v w => ∀ j : Nat → Value, Φ (.exit 0) (mkT j 0 L_slices_insertionSortOrdered_int64_1_e0 v) w) w

theorem L_slices_insertionSortOrdered_int64_1_eq (j : Nat → Value) (u : (Value × Int × Int)) (s : Int) (N : (Value × Int × Int) → Int → World → Prop) (D0 : (Unit) → World → Prop) (R : (Unit) → World → Prop) (w : World) :
    W Try.prog ty O_slices_insertionSortOrdered_int64_1 (loopAt Try.f90 1) (loopPost L_slices_insertionSortOrdered_int64_1_sp [(0, (⟨L_slices_insertionSortOrdered_int64_1_e0, D0⟩ : Door))] ⟨L_slices_insertionSortOrdered_int64_1_rt, R⟩ (fun v w => N ((fun v => (v.1, v.2.1, v.2.2.1)) v) ((fun v => v.2.2.2.1) v) w)) (mkT j 0 L_slices_insertionSortOrdered_int64_1_sp ((fun u s => (u.1, u.2.1, u.2.2, s, ())) u s)) w =
    B_slices_insertionSortOrdered_int64_1 u.1 u.2.1 u.2.2 s N D0 w := by
  kernel_rfl

def O_slices_insertionSortOrdered_int64_2 : Code → Post → List SV → World → Prop :=
  orc 1 (loopAt Try.f90 1) L_slices_insertionSortOrdered_int64_1_sp (fun Φ fr w => LOOP (U := (Value × Int × Int)) (S := Int) ((fun v => (v.1, v.2.1, v.2.2.1)) (extT L_slices_insertionSortOrdered_int64_1_sp fr)) (L_slices_insertionSortOrdered_int64_1_b Φ ((fun v => (v.1, v.2.1, v.2.2.1)) (extT L_slices_insertionSortOrdered_int64_1_sp fr))) ((fun v => v.2.2.2.1) (extT L_slices_insertionSortOrdered_int64_1_sp fr)) w) O_slices_insertionSortOrdered_int64_1

theorem O_slices_insertionSortOrdered_int64_2_ok : Sound Try.prog O_slices_insertionSortOrdered_int64_2 :=
  orc_ok O_slices_insertionSortOrdered_int64_1_ok fun Φ fr w hs h => loop_ok (ty := ty) follows O_slices_insertionSortOrdered_int64_1_ok L_slices_insertionSortOrdered_int64_1_sp (fun v => (v.1, v.2.1, v.2.2.1)) (fun v => v.2.2.2.1) (fun u s => (u.1, u.2.1, u.2.2, s, ())) (fun _ => rfl) L_slices_insertionSortOrdered_int64_1_ex L_slices_insertionSortOrdered_int64_1_rt (body := L_slices_insertionSortOrdered_int64_1_b Φ) (fun j u s w N hb => by
    have e := L_slices_insertionSortOrdered_int64_1_eq j u s N (doorOf Φ (.exit 0) L_slices_insertionSortOrdered_int64_1_e0).D (doorOf Φ .ret L_slices_insertionSortOrdered_int64_1_rt).D w
    exact Eq.mpr e hb) hs h

def V_slices_insertionSortOrdered_int64 (data0 : Value) (a1 : Int) (b2 : Int) (w : World) (K : Unit → World → Prop) : Prop :=
  (At (loopAt Try.f90 1) (loopAt Try.f90 1) (LOOP (U := (Value × Int × Int)) (S := Int) ((data0 : Value), a1, b2) (fun N_28 s_29 w_30 => B_slices_insertionSortOrdered_int64_1 (data0 : Value) a1 b2 s_29 N_28 (fun (v_25 : (Unit)) w_26 => ∀ _j_27 : Nat → Value, K () w_26) w_30) (IntKind.i64.wrap (a1 + (1 : Int))) w))

theorem eq_slices_insertionSortOrdered_int64 (data0 : Value) (a1 : Int) (b2 : Int) (w : World) (K : Unit → World → Prop) :
    W Try.prog ty O_slices_insertionSortOrdered_int64_2 (bodyOf Try.f90) (fnPost Try.prog Try.f90.results.toList .unit K) (frame0 [data0, (.int .i64 a1), (.int .i64 b2)] 49) w = V_slices_insertionSortOrdered_int64 data0 a1 b2 w K := by
  kernel_rfl

theorem body_slices_insertionSortOrdered_int64 : Try.f90.body = some (bodyOf Try.f90) := by kernel_rfl
theorem name_slices_insertionSortOrdered_int64 : (Try.f90.name == "runtime.NumGoroutine") = false := by kernel_rfl

theorem walk_slices_insertionSortOrdered_int64 (data0 : Value) (a1 : Int) (b2 : Int) {w : World} {K : Unit → World → Prop} (h : V_slices_insertionSortOrdered_int64 data0 a1 b2 w K) : Fc Try.prog 90 #[data0, (.int .i64 a1), (.int .i64 b2)] w .unit K :=
  fn_ok follows O_slices_insertionSortOrdered_int64_2_ok Try.func90 name_slices_insertionSortOrdered_int64 body_slices_insertionSortOrdered_int64 Try.ntmps90 [data0, (.int .i64 a1), (.int .i64 b2)] (Eq.mpr (eq_slices_insertionSortOrdered_int64 data0 a1 b2 w K) h)

-- uses S9NbR
theorem c_slices_insertionSortOrdered_int64 {v : Value} {b : Nat} {l : List Int} {w : World} {K : Unit → World → Prop} (h : OwnI w b v l) (hl : l.length ≤ 1099511627776)
    (hK : ∀ w' l', Mod [b] w w' → OwnI w' b v l' → l'.Perm l → Srt l' l'.length → K () w') :
    Fc Try.prog F_slices_insertionSortOrdered_int64 #[v, .int .i64 0, .int .i64 l.length] w .unit K := by
  refine walk_slices_insertionSortOrdered_int64 _ _ _ ?_
  refine lp (fun i w' => ∃ (k : Nat) (m : List Int), i = (k : Int) ∧ 1 ≤ k ∧ (k ≤ l.length ∨ k = 1) ∧ Mod [b] w w' ∧ OwnI w' b v m ∧ m.Perm l ∧ Srt m k) (fun i _ => ((l.length : Int) + 1 - i).toNat)
    ⟨1, l, (by rw [wrap_small (by omega) (by omega)]; rfl), by omega, .inr rfl, Mod.refl _ _, h, List.Perm.refl _, fun p q hpq hq => by omega⟩ ?_
  rintro i_ w1 N ⟨k, m, ei, k1, kl, m1, o1, pm, sm⟩ hN
  subst ei
  unfold B_slices_insertionSortOrdered_int64_1
  have ml := pm.length_eq
  refine ⟨fun hlt => ?_, fun hge _ => ?_⟩
  · have hlt : (k : Int) < l.length := dec_t hlt
    refine lp (fun j w' => ∃ (n : Nat) (m : List Int), j = (n : Int) ∧ n ≤ k ∧ Mod [b] w w' ∧ OwnI w' b v m ∧ m.Perm l ∧ SrtBut m (k + 1) n) (fun j _ => j.toNat)
      ⟨k, m, rfl, Nat.le_refl _, m1, o1, pm, fun p q hpq hq hne => sm p q hpq (by omega)⟩ ?_
    rintro j_ w2 N2 ⟨n, m', ej, nk, m2, o2, pm', sb⟩ hN2
    subst ej
    unfold B_slices_insertionSortOrdered_int64_4
    have ml' := pm'.length_eq
    intro w3 hd
    have m3 := m2.trans (mod_of_below (hd.below w2.heap.size) [b])
    have o3 := o2.keep (hd.below w2.heap.size)
    have next : ∀ {w' : World}, Mod [b] w w' → OwnI w' b v m' → Srt m' (k + 1) → N (v, 0, (l.length : Int)) (IntKind.i64.wrap ((k : Int) + 1)) w' := fun mm oo ss => by
      rw [wrap_small (by omega) (by omega)]
      exact hN _ _ ⟨k + 1, m', by simp, by omega, .inl (by omega), mm, oo, pm', ss⟩ (by omega)
    refine ⟨fun hj => ?_, fun hj => ?_⟩
    · have hj : (n : Int) > 0 := dec_t hj
      obtain ⟨c, rfl⟩ : ∃ c, n = c + 1 := ⟨n - 1, by omega⟩
      have e1 : IntKind.i64.wrap (((c + 1 : Nat) : Int) - 1) = (c : Int) := by rw [wrap_small (by omega) (by omega)]; omega
      have g1 : (((c + 1 : Nat) : Int)).toNat = c + 1 := by omega
      have g0 : ((c : Nat) : Int).toNat = c := by omega
      rw [e1]
      have sl3 := own_slI o3 (by omega)
      refine atI sl3 (by omega) (by omega) (atI sl3 (by omega) (by omega) (c_cmp_Less_int64 ?_))
      rw [g1, g0]
      refine ⟨fun hc => ?_, fun hc => ?_⟩
      · have hc := dec_t hc
        intro w4 hd4
        have m4 := m3.trans (mod_of_below (hd4.below w3.heap.size) [b])
        have o4 := o3.keep (hd4.below w3.heap.size)
        have sl4 := own_slI o4 (by omega)
        refine atI sl4 (by omega) (by omega) (atI sl4 (by omega) (by omega) (putI o4 (by omega) (by omega) fun w5 m5 s5 o5 => putI o5 (by omega) (by simp; omega) fun w6 m6 s6 o6 => ?_))
        rw [g1, g0] at o6
        exact hN2 _ _ ⟨c, swp m' c, rfl, by omega, (m4.trans m5).trans m6, o6, (swp_perm c m' (by omega)).trans pm', srt_swp (by omega) sb hc⟩ (by omega)
      · have hc := dec_f hc
        exact fun _ => next m3 o3 (srt_done sb (by omega))
    · have hj : ¬ (n : Int) > 0 := dec_f hj
      have : n = 0 := by omega
      subst this
      exact fun _ => next m3 o3 (srt_done0 sb)
  · have hge : ¬ (k : Int) < l.length := dec_f hge
    refine hK w1 m m1 o1 pm fun p q hpq hq => ?_
    exact sm p q hpq (by omega)

end Go.Proofs.Ytlbhpbaeokgmaaa

/- The reading of slices_pdqsortOrdered_int64, and its contract. No condition. -/
namespace Go.Proofs.Ytlbhpbaeokgmaaa
open Go Go.RowKit Eng Mem
set_option linter.unusedVariables false
set_option maxRecDepth 100000
def B_slices_pdqsortOrdered_int64_2 (data0 : Value) (a1 : Int) (b2 : Int) (limit3 : Int) (wasBalanced8 : Bool) (wasPartitioned9 : Bool) (N : Value → (Int × Int × Int × Bool × Bool) → World → Prop) (R : (Unit) → World → Prop) (w : World) : Prop :=
  (((decide ((IntKind.i64.wrap (b2 - a1)) ≤ (12 : Int))) = true → (Fc Try.prog 90 #[data0, (.int .i64 a1), (.int .i64 b2)] w .unit fun (x27_2 : Unit) w_1 => R () w_1)) ∧ ((decide ((IntKind.i64.wrap (b2 - a1)) ≤ (12 : Int))) = false → (((limit3 == (0 : Int)) = true → (Fc Try.prog 91 #[data0, (.int .i64 a1), (.int .i64 b2)] w .unit fun (x33_4 : Unit) w_3 => R () w_3)) ∧ ((limit3 == (0 : Int)) = false → (((!wasBalanced8) = true → (Fc Try.prog 92 #[data0, (.int .i64 a1), (.int .i64 b2)] w .unit fun (x39_6 : Unit) w_5 => (Fc Try.prog 93 #[data0, (.int .i64 a1), (.int .i64 b2)] w_5 (.two (.int .i64) (.int .i64)) fun (x46_8 : Int × Int) w_7 => (((x46_8.2 == (2 : Int)) = true → (Fc Try.prog 94 #[data0, (.int .i64 a1), (.int .i64 b2)] w_7 .unit fun (x54_10 : Unit) w_9 => ((wasBalanced8 = true → ((wasPartitioned9 = true → ((((1 : Int) == (1 : Int)) = true → (Fc Try.prog 95 #[data0, (.int .i64 a1), (.int .i64 b2)] w_9 (.one .bool) fun (x72_12 : Bool) w_11 => ((x72_12 = true → R () w_11) ∧ (x72_12 = false → (∀ w_13, Drew w_11 w_13 → (((decide (a1 > (0 : Int))) = true → (QAll Try.prog (Instr.indexAt 24 data0 (.int .i64 (IntKind.i64.wrap (a1 - (1 : Int))))) .any fun (x79_14 : Value) => (QSub Try.prog (Instr.loadAt 2 x79_14) w_13 (.int .i64) fun (x80_15 : Int) => (QAll Try.prog (Instr.indexAt 24 data0 (.int .i64 (IntKind.i64.wrap ((IntKind.i64.wrap (b2 - (1 : Int))) - (IntKind.i64.wrap (x46_8.1 - a1)))))) .any fun (x83_16 : Value) => (QSub Try.prog (Instr.loadAt 2 x83_16) w_13 (.int .i64) fun (x84_17 : Int) => (Fc Try.prog 96 #[(.int .i64 x80_15), (.int .i64 x84_17)] w_13 (.one .bool) fun (x85_19 : Bool) w_18 => (((!x85_19) = true → (Fc Try.prog 97 #[data0, (.int .i64 a1), (.int .i64 b2), (.int .i64 (IntKind.i64.wrap ((IntKind.i64.wrap (b2 - (1 : Int))) - (IntKind.i64.wrap (x46_8.1 - a1)))))] w_18 (.one (.int .i64)) fun (x92_21 : Int) w_20 => N (data0 : Value) (x92_21, b2, (IntKind.i64.wrap (limit3 - (1 : Int))), wasBalanced8, wasPartitioned9) w_20)) ∧ ((!x85_19) = false → (Fc Try.prog 98 #[data0, (.int .i64 a1), (.int .i64 b2), (.int .i64 (IntKind.i64.wrap ((IntKind.i64.wrap (b2 - (1 : Int))) - (IntKind.i64.wrap (x46_8.1 - a1)))))] w_18 (.two (.int .i64) .bool) fun (x99_23 : Int × Bool) w_22 => ((8 : Int) ≠ 0 ∧ (((decide ((IntKind.i64.wrap (x99_23.1 - a1)) < (IntKind.i64.wrap (b2 - x99_23.1)))) = true → (Fc Try.prog 87 #[data0, (.int .i64 a1), (.int .i64 x99_23.1), (.int .i64 (IntKind.i64.wrap (limit3 - (1 : Int))))] w_22 .unit fun (x121_25 : Unit) w_24 => N (data0 : Value) ((IntKind.i64.wrap (x99_23.1 + (1 : Int))), b2, (IntKind.i64.wrap (limit3 - (1 : Int))), (decide ((IntKind.i64.wrap (x99_23.1 - a1)) ≥ (IntKind.i64.wrap (Int.tdiv (IntKind.i64.wrap (b2 - a1)) (8 : Int))))), x99_23.2) w_24)) ∧ ((decide ((IntKind.i64.wrap (x99_23.1 - a1)) < (IntKind.i64.wrap (b2 - x99_23.1)))) = false → (Fc Try.prog 87 #[data0, (.int .i64 (IntKind.i64.wrap (x99_23.1 + (1 : Int)))), (.int .i64 b2), (.int .i64 (IntKind.i64.wrap (limit3 - (1 : Int))))] w_22 .unit fun (x132_27 : Unit) w_26 => N (data0 : Value) (a1, x99_23.1, (IntKind.i64.wrap (limit3 - (1 : Int))), (decide ((IntKind.i64.wrap (b2 - x99_23.1)) ≥ (IntKind.i64.wrap (Int.tdiv (IntKind.i64.wrap (b2 - a1)) (8 : Int))))), x99_23.2) w_26))))))))))))) ∧ ((decide (a1 > (0 : Int))) = false → (Fc Try.prog 98 #[data0, (.int .i64 a1), (.int .i64 b2), (.int .i64 (IntKind.i64.wrap ((IntKind.i64.wrap (b2 - (1 : Int))) - (IntKind.i64.wrap (x46_8.1 - a1)))))] w_13 (.two (.int .i64) .bool) fun (x99_29 : Int × Bool) w_28 => ((8 : Int) ≠ 0 ∧ (((decide ((IntKind.i64.wrap (x99_29.1 - a1)) < (IntKind.i64.wrap (b2 - x99_29.1)))) = true → (Fc Try.prog 87 #[data0, (.int .i64 a1), (.int .i64 x99_29.1), (.int .i64 (IntKind.i64.wrap (limit3 - (1 : Int))))] w_28 .unit fun (x121_31 : Unit) w_30 => N (data0 : Value) ((IntKind.i64.wrap (x99_29.1 + (1 : Int))), b2, (IntKind.i64.wrap (limit3 - (1 : Int))), (decide ((IntKind.i64.wrap (x99_29.1 - a1)) ≥ (IntKind.i64.wrap (Int.tdiv (IntKind.i64.wrap (b2 - a1)) (8 : Int))))), x99_29.2) w_30)) ∧ ((decide ((IntKind.i64.wrap (x99_29.1 - a1)) < (IntKind.i64.wrap (b2 - x99_29.1)))) = false → (Fc Try.prog 87 #[data0, (.int .i64 (IntKind.i64.wrap (x99_29.1 + (1 : Int)))), (.int .i64 b2), (.int .i64 (IntKind.i64.wrap (limit3 - (1 : Int))))] w_28 .unit fun (x132_33 : Unit) w_32 => N (data0 : Value) (a1, x99_29.1, (IntKind.i64.wrap (limit3 - (1 : Int))), (decide ((IntKind.i64.wrap (b2 - x99_29.1)) ≥ (IntKind.i64.wrap (Int.tdiv (IntKind.i64.wrap (b2 - a1)) (8 : Int))))), x99_29.2) w_32)))))))))))) ∧ (((1 : Int) == (1 : Int)) = false → (∀ w_34, Drew w_9 w_34 → (((decide (a1 > (0 : Int))) = true → (QAll Try.prog (Instr.indexAt 24 data0 (.int .i64 (IntKind.i64.wrap (a1 - (1 : Int))))) .any fun (x79_35 : Value) => (QSub Try.prog (Instr.loadAt 2 x79_35) w_34 (.int .i64) fun (x80_36 : Int) => (QAll Try.prog (Instr.indexAt 24 data0 (.int .i64 (IntKind.i64.wrap ((IntKind.i64.wrap (b2 - (1 : Int))) - (IntKind.i64.wrap (x46_8.1 - a1)))))) .any fun (x83_37 : Value) => (QSub Try.prog (Instr.loadAt 2 x83_37) w_34 (.int .i64) fun (x84_38 : Int) => (Fc Try.prog 96 #[(.int .i64 x80_36), (.int .i64 x84_38)] w_34 (.one .bool) fun (x85_40 : Bool) w_39 => (((!x85_40) = true → (Fc Try.prog 97 #[data0, (.int .i64 a1), (.int .i64 b2), (.int .i64 (IntKind.i64.wrap ((IntKind.i64.wrap (b2 - (1 : Int))) - (IntKind.i64.wrap (x46_8.1 - a1)))))] w_39 (.one (.int .i64)) fun (x92_42 : Int) w_41 => N (data0 : Value) (x92_42, b2, (IntKind.i64.wrap (limit3 - (1 : Int))), wasBalanced8, wasPartitioned9) w_41)) ∧ ((!x85_40) = false → (Fc Try.prog 98 #[data0, (.int .i64 a1), (.int .i64 b2), (.int .i64 (IntKind.i64.wrap ((IntKind.i64.wrap (b2 - (1 : Int))) - (IntKind.i64.wrap (x46_8.1 - a1)))))] w_39 (.two (.int .i64) .bool) fun (x99_44 : Int × Bool) w_43 => ((8 : Int) ≠ 0 ∧ (((decide ((IntKind.i64.wrap (x99_44.1 - a1)) < (IntKind.i64.wrap (b2 - x99_44.1)))) = true → (Fc Try.prog 87 #[data0, (.int .i64 a1), (.int .i64 x99_44.1), (.int .i64 (IntKind.i64.wrap (limit3 - (1 : Int))))] w_43 .unit fun (x121_46 : Unit) w_45 => N (data0 : Value) ((IntKind.i64.wrap (x99_44.1 + (1 : Int))), b2, (IntKind.i64.wrap (limit3 - (1 : Int))), (decide ((IntKind.i64.wrap (x99_44.1 - a1)) ≥ (IntKind.i64.wrap (Int.tdiv (IntKind.i64.wrap (b2 - a1)) (8 : Int))))), x99_44.2) w_45)) ∧ ((decide ((IntKind.i64.wrap (x99_44.1 - a1)) < (IntKind.i64.wrap (b2 - x99_44.1)))) = false → (Fc Try.prog 87 #[data0, (.int .i64 (IntKind.i64.wrap (x99_44.1 + (1 : Int)))), (.int .i64 b2), (.int .i64 (IntKind.i64.wrap (limit3 - (1 : Int))))] w_43 .unit fun (x132_48 : Unit) w_47 => N (data0 : Value) (a1, x99_44.1, (IntKind.i64.wrap (limit3 - (1 : Int))), (decide ((IntKind.i64.wrap (b2 - x99_44.1)) ≥ (IntKind.i64.wrap (Int.tdiv (IntKind.i64.wrap (b2 - a1)) (8 : Int))))), x99_44.2) w_47))))))))))))) ∧ ((decide (a1 > (0 : Int))) = false → (Fc Try.prog 98 #[data0, (.int .i64 a1), (.int .i64 b2), (.int .i64 (IntKind.i64.wrap ((IntKind.i64.wrap (b2 - (1 : Int))) - (IntKind.i64.wrap (x46_8.1 - a1)))))] w_34 (.two (.int .i64) .bool) fun (x99_50 : Int × Bool) w_49 => ((8 : Int) ≠ 0 ∧ (((decide ((IntKind.i64.wrap (x99_50.1 - a1)) < (IntKind.i64.wrap (b2 - x99_50.1)))) = true → (Fc Try.prog 87 #[data0, (.int .i64 a1), (.int .i64 x99_50.1), (.int .i64 (IntKind.i64.wrap (limit3 - (1 : Int))))] w_49 .unit fun (x121_52 : Unit) w_51 => N (data0 : Value) ((IntKind.i64.wrap (x99_50.1 + (1 : Int))), b2, (IntKind.i64.wrap (limit3 - (1 : Int))), (decide ((IntKind.i64.wrap (x99_50.1 - a1)) ≥ (IntKind.i64.wrap (Int.tdiv (IntKind.i64.wrap (b2 - a1)) (8 : Int))))), x99_50.2) w_51)) ∧ ((decide ((IntKind.i64.wrap (x99_50.1 - a1)) < (IntKind.i64.wrap (b2 - x99_50.1)))) = false → (Fc Try.prog 87 #[data0, (.int .i64 (IntKind.i64.wrap (x99_50.1 + (1 : Int)))), (.int .i64 b2), (.int .i64 (IntKind.i64.wrap (limit3 - (1 : Int))))] w_49 .unit fun (x132_54 : Unit) w_53 => N (data0 : Value) (a1, x99_50.1, (IntKind.i64.wrap (limit3 - (1 : Int))), (decide ((IntKind.i64.wrap (b2 - x99_50.1)) ≥ (IntKind.i64.wrap (Int.tdiv (IntKind.i64.wrap (b2 - a1)) (8 : Int))))), x99_50.2) w_53))))))))))) ∧ (wasPartitioned9 = false → (∀ w_55, Drew w_9 w_55 → (((decide (a1 > (0 : Int))) = true → (QAll Try.prog (Instr.indexAt 24 data0 (.int .i64 (IntKind.i64.wrap (a1 - (1 : Int))))) .any fun (x79_56 : Value) => (QSub Try.prog (Instr.loadAt 2 x79_56) w_55 (.int .i64) fun (x80_57 : Int) => (QAll Try.prog (Instr.indexAt 24 data0 (.int .i64 (IntKind.i64.wrap ((IntKind.i64.wrap (b2 - (1 : Int))) - (IntKind.i64.wrap (x46_8.1 - a1)))))) .any fun (x83_58 : Value) => (QSub Try.prog (Instr.loadAt 2 x83_58) w_55 (.int .i64) fun (x84_59 : Int) => (Fc Try.prog 96 #[(.int .i64 x80_57), (.int .i64 x84_59)] w_55 (.one .bool) fun (x85_61 : Bool) w_60 => (((!x85_61) = true → (Fc Try.prog 97 #[data0, (.int .i64 a1), (.int .i64 b2), (.int .i64 (IntKind.i64.wrap ((IntKind.i64.wrap (b2 - (1 : Int))) - (IntKind.i64.wrap (x46_8.1 - a1)))))] w_60 (.one (.int .i64)) fun (x92_63 : Int) w_62 => N (data0 : Value) (x92_63, b2, (IntKind.i64.wrap (limit3 - (1 : Int))), wasBalanced8, wasPartitioned9) w_62)) ∧ ((!x85_61) = false → (Fc Try.prog 98 #[data0, (.int .i64 a1), (.int .i64 b2), (.int .i64 (IntKind.i64.wrap ((IntKind.i64.wrap (b2 - (1 : Int))) - (IntKind.i64.wrap (x46_8.1 - a1)))))] w_60 (.two (.int .i64) .bool) fun (x99_65 : Int × Bool) w_64 => ((8 : Int) ≠ 0 ∧ (((decide ((IntKind.i64.wrap (x99_65.1 - a1)) < (IntKind.i64.wrap (b2 - x99_65.1)))) = true → (Fc Try.prog 87 #[data0, (.int .i64 a1), (.int .i64 x99_65.1), (.int .i64 (IntKind.i64.wrap (limit3 - (1 : Int))))] w_64 .unit fun (x121_67 : Unit) w_66 => N (data0 : Value) ((IntKind.i64.wrap (x99_65.1 + (1 : Int))), b2, (IntKind.i64.wrap (limit3 - (1 : Int))), (decide ((IntKind.i64.wrap (x99_65.1 - a1)) ≥ (IntKind.i64.wrap (Int.tdiv (IntKind.i64.wrap (b2 - a1)) (8 : Int))))), x99_65.2) w_66)) ∧ ((decide ((IntKind.i64.wrap (x99_65.1 - a1)) < (IntKind.i64.wrap (b2 - x99_65.1)))) = false → (Fc Try.prog 87 #[data0, (.int .i64 (IntKind.i64.wrap (x99_65.1 + (1 : Int)))), (.int .i64 b2), (.int .i64 (IntKind.i64.wrap (limit3 - (1 : Int))))] w_64 .unit fun (x132_69 : Unit) w_68 => N (data0 : Value) (a1, x99_65.1, (IntKind.i64.wrap (limit3 - (1 : Int))), (decide ((IntKind.i64.wrap (b2 - x99_65.1)) ≥ (IntKind.i64.wrap (Int.tdiv (IntKind.i64.wrap (b2 - a1)) (8 : Int))))), x99_65.2) w_68))))))))))))) ∧ ((decide (a1 > (0 : Int))) = false → (Fc Try.prog 98 #[data0, (.int .i64 a1), (.int .i64 b2), (.int .i64 (IntKind.i64.wrap ((IntKind.i64.wrap (b2 - (1 : Int))) - (IntKind.i64.wrap (x46_8.1 - a1)))))] w_55 (.two (.int .i64) .bool) fun (x99_71 : Int × Bool) w_70 => ((8 : Int) ≠ 0 ∧ (((decide ((IntKind.i64.wrap (x99_71.1 - a1)) < (IntKind.i64.wrap (b2 - x99_71.1)))) = true → (Fc Try.prog 87 #[data0, (.int .i64 a1), (.int .i64 x99_71.1), (.int .i64 (IntKind.i64.wrap (limit3 - (1 : Int))))] w_70 .unit fun (x121_73 : Unit) w_72 => N (data0 : Value) ((IntKind.i64.wrap (x99_71.1 + (1 : Int))), b2, (IntKind.i64.wrap (limit3 - (1 : Int))), (decide ((IntKind.i64.wrap (x99_71.1 - a1)) ≥ (IntKind.i64.wrap (Int.tdiv (IntKind.i64.wrap (b2 - a1)) (8 : Int))))), x99_71.2) w_72)) ∧ ((decide ((IntKind.i64.wrap (x99_71.1 - a1)) < (IntKind.i64.wrap (b2 - x99_71.1)))) = false → (Fc Try.prog 87 #[data0, (.int .i64 (IntKind.i64.wrap (x99_71.1 + (1 : Int)))), (.int .i64 b2), (.int .i64 (IntKind.i64.wrap (limit3 - (1 : Int))))] w_70 .unit fun (x132_75 : Unit) w_74 => N (data0 : Value) (a1, x99_71.1, (IntKind.i64.wrap (limit3 - (1 : Int))), (decide ((IntKind.i64.wrap (b2 - x99_71.1)) ≥ (IntKind.i64.wrap (Int.tdiv (IntKind.i64.wrap (b2 - a1)) (8 : Int))))), x99_71.2) w_74))))))))))) ∧ (wasBalanced8 = false → (∀ w_76, Drew w_9 w_76 → (((decide (a1 > (0 : Int))) = true → (QAll Try.prog (Instr.indexAt 24 data0 (.int .i64 (IntKind.i64.wrap (a1 - (1 : Int))))) .any fun (x79_77 : Value) => (QSub Try.prog (Instr.loadAt 2 x79_77) w_76 (.int .i64) fun (x80_78 : Int) => (QAll Try.prog (Instr.indexAt 24 data0 (.int .i64 (IntKind.i64.wrap ((IntKind.i64.wrap (b2 - (1 : Int))) - (IntKind.i64.wrap (x46_8.1 - a1)))))) .any fun (x83_79 : Value) => (QSub Try.prog (Instr.loadAt 2 x83_79) w_76 (.int .i64) fun (x84_80 : Int) => (Fc Try.prog 96 #[(.int .i64 x80_78), (.int .i64 x84_80)] w_76 (.one .bool) fun (x85_82 : Bool) w_81 => (((!x85_82) = true → (Fc Try.prog 97 #[data0, (.int .i64 a1), (.int .i64 b2), (.int .i64 (IntKind.i64.wrap ((IntKind.i64.wrap (b2 - (1 : Int))) - (IntKind.i64.wrap (x46_8.1 - a1)))))] w_81 (.one (.int .i64)) fun (x92_84 : Int) w_83 => N (data0 : Value) (x92_84, b2, (IntKind.i64.wrap (limit3 - (1 : Int))), wasBalanced8, wasPartitioned9) w_83)) ∧ ((!x85_82) = false → (Fc Try.prog 98 #[data0, (.int .i64 a1), (.int .i64 b2), (.int .i64 (IntKind.i64.wrap ((IntKind.i64.wrap (b2 - (1 : Int))) - (IntKind.i64.wrap (x46_8.1 - a1)))))] w_81 (.two (.int .i64) .bool) fun (x99_86 : Int × Bool) w_85 => ((8 : Int) ≠ 0 ∧ (((decide ((IntKind.i64.wrap (x99_86.1 - a1)) < (IntKind.i64.wrap (b2 - x99_86.1)))) = true → (Fc Try.prog 87 #[data0, (.int .i64 a1), (.int .i64 x99_86.1), (.int .i64 (IntKind.i64.wrap (limit3 - (1 : Int))))] w_85 .unit fun (x121_88 : Unit) w_87 => N (data0 : Value) ((IntKind.i64.wrap (x99_86.1 + (1 : Int))), b2, (IntKind.i64.wrap (limit3 - (1 : Int))), (decide ((IntKind.i64.wrap (x99_86.1 - a1)) ≥ (IntKind.i64.wrap (Int.tdiv (IntKind.i64.wrap (b2 - a1)) (8 : Int))))), x99_86.2) w_87)) ∧ ((decide ((IntKind.i64.wrap (x99_86.1 - a1)) < (IntKind.i64.wrap (b2 - x99_86.1)))) = false → (Fc Try.prog 87 #[data0, (.int .i64 (IntKind.i64.wrap (x99_86.1 + (1 : Int)))), (.int .i64 b2), (.int .i64 (IntKind.i64.wrap (limit3 - (1 : Int))))] w_85 .unit fun (x132_90 : Unit) w_89 => N (data0 : Value) (a1, x99_86.1, (IntKind.i64.wrap (limit3 - (1 : Int))), (decide ((IntKind.i64.wrap (b2 - x99_86.1)) ≥ (IntKind.i64.wrap (Int.tdiv (IntKind.i64.wrap (b2 - a1)) (8 : Int))))), x99_86.2) w_89))))))))))))) ∧ ((decide (a1 > (0 : Int))) = false → (Fc Try.prog 98 #[data0, (.int .i64 a1), (.int .i64 b2), (.int .i64 (IntKind.i64.wrap ((IntKind.i64.wrap (b2 - (1 : Int))) - (IntKind.i64.wrap (x46_8.1 - a1)))))] w_76 (.two (.int .i64) .bool) fun (x99_92 : Int × Bool) w_91 => ((8 : Int) ≠ 0 ∧ (((decide ((IntKind.i64.wrap (x99_92.1 - a1)) < (IntKind.i64.wrap (b2 - x99_92.1)))) = true → (Fc Try.prog 87 #[data0, (.int .i64 a1), (.int .i64 x99_92.1), (.int .i64 (IntKind.i64.wrap (limit3 - (1 : Int))))] w_91 .unit fun (x121_94 : Unit) w_93 => N (data0 : Value) ((IntKind.i64.wrap (x99_92.1 + (1 : Int))), b2, (IntKind.i64.wrap (limit3 - (1 : Int))), (decide ((IntKind.i64.wrap (x99_92.1 - a1)) ≥ (IntKind.i64.wrap (Int.tdiv (IntKind.i64.wrap (b2 - a1)) (8 : Int))))), x99_92.2) w_93)) ∧ ((decide ((IntKind.i64.wrap (x99_92.1 - a1)) < (IntKind.i64.wrap (b2 - x99_92.1)))) = false → (Fc Try.prog 87 #[data0, (.int .i64 (IntKind.i64.wrap (x99_92.1 + (1 : Int)))), (.int .i64 b2), (.int .i64 (IntKind.i64.wrap (limit3 - (1 : Int))))] w_91 .unit fun (x132_96 : Unit) w_95 => N (data0 : Value) (a1, x99_92.1, (IntKind.i64.wrap (limit3 - (1 : Int))), (decide ((IntKind.i64.wrap (b2 - x99_92.1)) ≥ (IntKind.i64.wrap (Int.tdiv (IntKind.i64.wrap (b2 - a1)) (8 : Int))))), x99_92.2) w_95)))))))))))) ∧ ((x46_8.2 == (2 : Int)) = false → ((wasBalanced8 = true → ((wasPartitioned9 = true → (((x46_8.2 == (1 : Int)) = true → (Fc Try.prog 95 #[data0, (.int .i64 a1), (.int .i64 b2)] w_7 (.one .bool) fun (x72_98 : Bool) w_97 => ((x72_98 = true → R () w_97) ∧ (x72_98 = false → (∀ w_99, Drew w_97 w_99 → (((decide (a1 > (0 : Int))) = true → (QAll Try.prog (Instr.indexAt 24 data0 (.int .i64 (IntKind.i64.wrap (a1 - (1 : Int))))) .any fun (x79_100 : Value) => (QSub Try.prog (Instr.loadAt 2 x79_100) w_99 (.int .i64) fun (x80_101 : Int) => (QAll Try.prog (Instr.indexAt 24 data0 (.int .i64 x46_8.1)) .any fun (x83_102 : Value) => (QSub Try.prog (Instr.loadAt 2 x83_102) w_99 (.int .i64) fun (x84_103 : Int) => (Fc Try.prog 96 #[(.int .i64 x80_101), (.int .i64 x84_103)] w_99 (.one .bool) fun (x85_105 : Bool) w_104 => (((!x85_105) = true → (Fc Try.prog 97 #[data0, (.int .i64 a1), (.int .i64 b2), (.int .i64 x46_8.1)] w_104 (.one (.int .i64)) fun (x92_107 : Int) w_106 => N (data0 : Value) (x92_107, b2, (IntKind.i64.wrap (limit3 - (1 : Int))), wasBalanced8, wasPartitioned9) w_106)) ∧ ((!x85_105) = false → (Fc Try.prog 98 #[data0, (.int .i64 a1), (.int .i64 b2), (.int .i64 x46_8.1)] w_104 (.two (.int .i64) .bool) fun (x99_109 : Int × Bool) w_108 => ((8 : Int) ≠ 0 ∧ (((decide ((IntKind.i64.wrap (x99_109.1 - a1)) < (IntKind.i64.wrap (b2 - x99_109.1)))) = true → (Fc Try.prog 87 #[data0, (.int .i64 a1), (.int .i64 x99_109.1), (.int .i64 (IntKind.i64.wrap (limit3 - (1 : Int))))] w_108 .unit fun (x121_111 : Unit) w_110 => N (data0 : Value) ((IntKind.i64.wrap (x99_109.1 + (1 : Int))), b2, (IntKind.i64.wrap (limit3 - (1 : Int))), (decide ((IntKind.i64.wrap (x99_109.1 - a1)) ≥ (IntKind.i64.wrap (Int.tdiv (IntKind.i64.wrap (b2 - a1)) (8 : Int))))), x99_109.2) w_110)) ∧ ((decide ((IntKind.i64.wrap (x99_109.1 - a1)) < (IntKind.i64.wrap (b2 - x99_109.1)))) = false → (Fc Try.prog 87 #[data0, (.int .i64 (IntKind.i64.wrap (x99_109.1 + (1 : Int)))), (.int .i64 b2), (.int .i64 (IntKind.i64.wrap (limit3 - (1 : Int))))] w_108 .unit fun (x132_113 : Unit) w_112 => N (data0 : Value) (a1, x99_109.1, (IntKind.i64.wrap (limit3 - (1 : Int))), (decide ((IntKind.i64.wrap (b2 - x99_109.1)) ≥ (IntKind.i64.wrap (Int.tdiv (IntKind.i64.wrap (b2 - a1)) (8 : Int))))), x99_109.2) w_112))))))))))))) ∧ ((decide (a1 > (0 : Int))) = false → (Fc Try.prog 98 #[data0, (.int .i64 a1), (.int .i64 b2), (.int .i64 x46_8.1)] w_99 (.two (.int .i64) .bool) fun (x99_115 : Int × Bool) w_114 => ((8 : Int) ≠ 0 ∧ (((decide ((IntKind.i64.wrap (x99_115.1 - a1)) < (IntKind.i64.wrap (b2 - x99_115.1)))) = true → (Fc Try.prog 87 #[data0, (.int .i64 a1), (.int .i64 x99_115.1), (.int .i64 (IntKind.i64.wrap (limit3 - (1 : Int))))] w_114 .unit fun (x121_117 : Unit) w_116 => N (data0 : Value) ((IntKind.i64.wrap (x99_115.1 + (1 : Int))), b2, (IntKind.i64.wrap (limit3 - (1 : Int))), (decide ((IntKind.i64.wrap (x99_115.1 - a1)) ≥ (IntKind.i64.wrap (Int.tdiv (IntKind.i64.wrap (b2 - a1)) (8 : Int))))), x99_115.2) w_116)) ∧ ((decide ((IntKind.i64.wrap (x99_115.1 - a1)) < (IntKind.i64.wrap (b2 - x99_115.1)))) = false → (Fc Try.prog 87 #[data0, (.int .i64 (IntKind.i64.wrap (x99_115.1 + (1 : Int)))), (.int .i64 b2), (.int .i64 (IntKind.i64.wrap (limit3 - (1 : Int))))] w_114 .unit fun (x132_119 : Unit) w_118 => N (data0 : Value) (a1, x99_115.1, (IntKind.i64.wrap (limit3 - (1 : Int))), (decide ((IntKind.i64.wrap (b2 - x99_115.1)) ≥ (IntKind.i64.wrap (Int.tdiv (IntKind.i64.wrap (b2 - a1)) (8 : Int))))), x99_115.2) w_118)))))))))))) ∧ ((x46_8.2 == (1 : Int)) = false → (∀ w_120, Drew w_7 w_120 → (((decide (a1 > (0 : Int))) = true → (QAll Try.prog (Instr.indexAt 24 data0 (.int .i64 (IntKind.i64.wrap (a1 - (1 : Int))))) .any fun (x79_121 : Value) => (QSub Try.prog (Instr.loadAt 2 x79_121) w_120 (.int .i64) fun (x80_122 : Int) => (QAll Try.prog (Instr.indexAt 24 data0 (.int .i64 x46_8.1)) .any fun (x83_123 : Value) => (QSub Try.prog (Instr.loadAt 2 x83_123) w_120 (.int .i64) fun (x84_124 : Int) => (Fc Try.prog 96 #[(.int .i64 x80_122), (.int .i64 x84_124)] w_120 (.one .bool) fun (x85_126 : Bool) w_125 => (((!x85_126) = true → (Fc Try.prog 97 #[data0, (.int .i64 a1), (.int .i64 b2), (.int .i64 x46_8.1)] w_125 (.one (.int .i64)) fun (x92_128 : Int) w_127 => N (data0 : Value) (x92_128, b2, (IntKind.i64.wrap (limit3 - (1 : Int))), wasBalanced8, wasPartitioned9) w_127)) ∧ ((!x85_126) = false → (Fc Try.prog 98 #[data0, (.int .i64 a1), (.int .i64 b2), (.int .i64 x46_8.1)] w_125 (.two (.int .i64) .bool) fun (x99_130 : Int × Bool) w_129 => ((8 : Int) ≠ 0 ∧ (((decide ((IntKind.i64.wrap (x99_130.1 - a1)) < (IntKind.i64.wrap (b2 - x99_130.1)))) = true → (Fc Try.prog 87 #[data0, (.int .i64 a1), (.int .i64 x99_130.1), (.int .i64 (IntKind.i64.wrap (limit3 - (1 : Int))))] w_129 .unit fun (x121_132 : Unit) w_131 => N (data0 : Value) ((IntKind.i64.wrap (x99_130.1 + (1 : Int))), b2, (IntKind.i64.wrap (limit3 - (1 : Int))), (decide ((IntKind.i64.wrap (x99_130.1 - a1)) ≥ (IntKind.i64.wrap (Int.tdiv (IntKind.i64.wrap (b2 - a1)) (8 : Int))))), x99_130.2) w_131)) ∧ ((decide ((IntKind.i64.wrap (x99_130.1 - a1)) < (IntKind.i64.wrap (b2 - x99_130.1)))) = false → (Fc Try.prog 87 #[data0, (.int .i64 (IntKind.i64.wrap (x99_130.1 + (1 : Int)))), (.int .i64 b2), (.int .i64 (IntKind.i64.wrap (limit3 - (1 : Int))))] w_129 .unit fun (x132_134 : Unit) w_133 => N (data0 : Value) (a1, x99_130.1, (IntKind.i64.wrap (limit3 - (1 : Int))), (decide ((IntKind.i64.wrap (b2 - x99_130.1)) ≥ (IntKind.i64.wrap (Int.tdiv (IntKind.i64.wrap (b2 - a1)) (8 : Int))))), x99_130.2) w_133))))))))))))) ∧ ((decide (a1 > (0 : Int))) = false → (Fc Try.prog 98 #[data0, (.int .i64 a1), (.int .i64 b2), (.int .i64 x46_8.1)] w_120 (.two (.int .i64) .bool) fun (x99_136 : Int × Bool) w_135 => ((8 : Int) ≠ 0 ∧ (((decide ((IntKind.i64.wrap (x99_136.1 - a1)) < (IntKind.i64.wrap (b2 - x99_136.1)))) = true → (Fc Try.prog 87 #[data0, (.int .i64 a1), (.int .i64 x99_136.1), (.int .i64 (IntKind.i64.wrap (limit3 - (1 : Int))))] w_135 .unit fun (x121_138 : Unit) w_137 => N (data0 : Value) ((IntKind.i64.wrap (x99_136.1 + (1 : Int))), b2, (IntKind.i64.wrap (limit3 - (1 : Int))), (decide ((IntKind.i64.wrap (x99_136.1 - a1)) ≥ (IntKind.i64.wrap (Int.tdiv (IntKind.i64.wrap (b2 - a1)) (8 : Int))))), x99_136.2) w_137)) ∧ ((decide ((IntKind.i64.wrap (x99_136.1 - a1)) < (IntKind.i64.wrap (b2 - x99_136.1)))) = false → (Fc Try.prog 87 #[data0, (.int .i64 (IntKind.i64.wrap (x99_136.1 + (1 : Int)))), (.int .i64 b2), (.int .i64 (IntKind.i64.wrap (limit3 - (1 : Int))))] w_135 .unit fun (x132_140 : Unit) w_139 => N (data0 : Value) (a1, x99_136.1, (IntKind.i64.wrap (limit3 - (1 : Int))), (decide ((IntKind.i64.wrap (b2 - x99_136.1)) ≥ (IntKind.i64.wrap (Int.tdiv (IntKind.i64.wrap (b2 - a1)) (8 : Int))))), x99_136.2) w_139))))))))))) ∧ (wasPartitioned9 = false → (∀ w_141, Drew w_7 w_141 → (((decide (a1 > (0 : Int))) = true → (QAll Try.prog (Instr.indexAt 24 data0 (.int .i64 (IntKind.i64.wrap (a1 - (1 : Int))))) .any fun (x79_142 : Value) => (QSub Try.prog (Instr.loadAt 2 x79_142) w_141 (.int .i64) fun (x80_143 : Int) => (QAll Try.prog (Instr.indexAt 24 data0 (.int .i64 x46_8.1)) .any fun (x83_144 : Value) => (QSub Try.prog (Instr.loadAt 2 x83_144) w_141 (.int .i64) fun (x84_145 : Int) => (Fc Try.prog 96 #[(.int .i64 x80_143), (.int .i64 x84_145)] w_141 (.one .bool) fun (x85_147 : Bool) w_146 => (((!x85_147) = true → (Fc Try.prog 97 #[data0, (.int .i64 a1), (.int .i64 b2), (.int .i64 x46_8.1)] w_146 (.one (.int .i64)) fun (x92_149 : Int) w_148 => N (data0 : Value) (x92_149, b2, (IntKind.i64.wrap (limit3 - (1 : Int))), wasBalanced8, wasPartitioned9) w_148)) ∧ ((!x85_147) = false → (Fc Try.prog 98 #[data0, (.int .i64 a1), (.int .i64 b2), (.int .i64 x46_8.1)] w_146 (.two (.int .i64) .bool) fun (x99_151 : Int × Bool) w_150 => ((8 : Int) ≠ 0 ∧ (((decide ((IntKind.i64.wrap (x99_151.1 - a1)) < (IntKind.i64.wrap (b2 - x99_151.1)))) = true → (Fc Try.prog 87 #[data0, (.int .i64 a1), (.int .i64 x99_151.1), (.int .i64 (IntKind.i64.wrap (limit3 - (1 : Int))))] w_150 .unit fun (x121_153 : Unit) w_152 => N (data0 : Value) ((IntKind.i64.wrap (x99_151.1 + (1 : Int))), b2, (IntKind.i64.wrap (limit3 - (1 : Int))), (decide ((IntKind.i64.wrap (x99_151.1 - a1)) ≥ (IntKind.i64.wrap (Int.tdiv (IntKind.i64.wrap (b2 - a1)) (8 : Int))))), x99_151.2) w_152)) ∧ ((decide ((IntKind.i64.wrap (x99_151.1 - a1)) < (IntKind.i64.wrap (b2 - x99_151.1)))) = false → (Fc Try.prog 87 #[data0, (.int .i64 (IntKind.i64.wrap (x99_151.1 + (1 : Int)))), (.int .i64 b2), (.int .i64 (IntKind.i64.wrap (limit3 - (1 : Int))))] w_150 .unit fun (x132_155 : Unit) w_154 => N (data0 : Value) (a1, x99_151.1, (IntKind.i64.wrap (limit3 - (1 : Int))), (decide ((IntKind.i64.wrap (b2 - x99_151.1)) ≥ (IntKind.i64.wrap (Int.tdiv (IntKind.i64.wrap (b2 - a1)) (8 : Int))))), x99_151.2) w_154))))))))))))) ∧ ((decide (a1 > (0 : Int))) = false → (Fc Try.prog 98 #[data0, (.int .i64 a1), (.int .i64 b2), (.int .i64 x46_8.1)] w_141 (.two (.int .i64) .bool) fun (x99_157 : Int × Bool) w_156 => ((8 : Int) ≠ 0 ∧ (((decide ((IntKind.i64.wrap (x99_157.1 - a1)) < (IntKind.i64.wrap (b2 - x99_157.1)))) = true → (Fc Try.prog 87 #[data0, (.int .i64 a1), (.int .i64 x99_157.1), (.int .i64 (IntKind.i64.wrap (limit3 - (1 : Int))))] w_156 .unit fun (x121_159 : Unit) w_158 => N (data0 : Value) ((IntKind.i64.wrap (x99_157.1 + (1 : Int))), b2, (IntKind.i64.wrap (limit3 - (1 : Int))), (decide ((IntKind.i64.wrap (x99_157.1 - a1)) ≥ (IntKind.i64.wrap (Int.tdiv (IntKind.i64.wrap (b2 - a1)) (8 : Int))))), x99_157.2) w_158)) ∧ ((decide ((IntKind.i64.wrap (x99_157.1 - a1)) < (IntKind.i64.wrap (b2 - x99_157.1)))) = false → (Fc Try.prog 87 #[data0, (.int .i64 (IntKind.i64.wrap (x99_157.1 + (1 : Int)))), (.int .i64 b2), (.int .i64 (IntKind.i64.wrap (limit3 - (1 : Int))))] w_156 .unit fun (x132_161 : Unit) w_160 => N (data0 : Value) (a1, x99_157.1, (IntKind.i64.wrap (limit3 - (1 : Int))), (decide ((IntKind.i64.wrap (b2 - x99_157.1)) ≥ (IntKind.i64.wrap (Int.tdiv (IntKind.i64.wrap (b2 - a1)) (8 : Int))))), x99_157.2) w_160))))))))))) ∧ (wasBalanced8 = false → (∀ w_162, Drew w_7 w_162 → (((decide (a1 > (0 : Int))) = true → (QAll Try.prog (Instr.indexAt 24 data0 (.int .i64 (IntKind.i64.wrap (a1 - (1 : Int))))) .any fun (x79_163 : Value) => (QSub Try.prog (Instr.loadAt 2 x79_163) w_162 (.int .i64) fun (x80_164 : Int) => (QAll Try.prog (Instr.indexAt 24 data0 (.int .i64 x46_8.1)) .any fun (x83_165 : Value) => (QSub Try.prog (Instr.loadAt 2 x83_165) w_162 (.int .i64) fun (x84_166 : Int) => (Fc Try.prog 96 #[(.int .i64 x80_164), (.int .i64 x84_166)] w_162 (.one .bool) fun (x85_168 : Bool) w_167 => (((!x85_168) = true → (Fc Try.prog 97 #[data0, (.int .i64 a1), (.int .i64 b2), (.int .i64 x46_8.1)] w_167 (.one (.int .i64)) fun (x92_170 : Int) w_169 => N (data0 : Value) (x92_170, b2, (IntKind.i64.wrap (limit3 - (1 : Int))), wasBalanced8, wasPartitioned9) w_169)) ∧ ((!x85_168) = false → (Fc Try.prog 98 #[data0, (.int .i64 a1), (.int .i64 b2), (.int .i64 x46_8.1)] w_167 (.two (.int .i64) .bool) fun (x99_172 : Int × Bool) w_171 => ((8 : Int) ≠ 0 ∧ (((decide ((IntKind.i64.wrap (x99_172.1 - a1)) < (IntKind.i64.wrap (b2 - x99_172.1)))) = true → (Fc Try.prog 87 #[data0, (.int .i64 a1), (.int .i64 x99_172.1), (.int .i64 (IntKind.i64.wrap (limit3 - (1 : Int))))] w_171 .unit fun (x121_174 : Unit) w_173 => N (data0 : Value) ((IntKind.i64.wrap (x99_172.1 + (1 : Int))), b2, (IntKind.i64.wrap (limit3 - (1 : Int))), (decide ((IntKind.i64.wrap (x99_172.1 - a1)) ≥ (IntKind.i64.wrap (Int.tdiv (IntKind.i64.wrap (b2 - a1)) (8 : Int))))), x99_172.2) w_173)) ∧ ((decide ((IntKind.i64.wrap (x99_172.1 - a1)) < (IntKind.i64.wrap (b2 - x99_172.1)))) = false → (Fc Try.prog 87 #[data0, (.int .i64 (IntKind.i64.wrap (x99_172.1 + (1 : Int)))), (.int .i64 b2), (.int .i64 (IntKind.i64.wrap (limit3 - (1 : Int))))] w_171 .unit fun (x132_176 : Unit) w_175 => N (data0 : Value) (a1, x99_172.1, (IntKind.i64.wrap (limit3 - (1 : Int))), (decide ((IntKind.i64.wrap (b2 - x99_172.1)) ≥ (IntKind.i64.wrap (Int.tdiv (IntKind.i64.wrap (b2 - a1)) (8 : Int))))), x99_172.2) w_175))))))))))))) ∧ ((decide (a1 > (0 : Int))) = false → (Fc Try.prog 98 #[data0, (.int .i64 a1), (.int .i64 b2), (.int .i64 x46_8.1)] w_162 (.two (.int .i64) .bool) fun (x99_178 : Int × Bool) w_177 => ((8 : Int) ≠ 0 ∧ (((decide ((IntKind.i64.wrap (x99_178.1 - a1)) < (IntKind.i64.wrap (b2 - x99_178.1)))) = true → (Fc Try.prog 87 #[data0, (.int .i64 a1), (.int .i64 x99_178.1), (.int .i64 (IntKind.i64.wrap (limit3 - (1 : Int))))] w_177 .unit fun (x121_180 : Unit) w_179 => N (data0 : Value) ((IntKind.i64.wrap (x99_178.1 + (1 : Int))), b2, (IntKind.i64.wrap (limit3 - (1 : Int))), (decide ((IntKind.i64.wrap (x99_178.1 - a1)) ≥ (IntKind.i64.wrap (Int.tdiv (IntKind.i64.wrap (b2 - a1)) (8 : Int))))), x99_178.2) w_179)) ∧ ((decide ((IntKind.i64.wrap (x99_178.1 - a1)) < (IntKind.i64.wrap (b2 - x99_178.1)))) = false → (Fc Try.prog 87 #[data0, (.int .i64 (IntKind.i64.wrap (x99_178.1 + (1 : Int)))), (.int .i64 b2), (.int .i64 (IntKind.i64.wrap (limit3 - (1 : Int))))] w_177 .unit fun (x132_182 : Unit) w_181 => N (data0 : Value) (a1, x99_178.1, (IntKind.i64.wrap (limit3 - (1 : Int))), (decide ((IntKind.i64.wrap (b2 - x99_178.1)) ≥ (IntKind.i64.wrap (Int.tdiv (IntKind.i64.wrap (b2 - a1)) (8 : Int))))), x99_178.2) w_181))))))))))))))) ∧ ((!wasBalanced8) = false → (Fc Try.prog 93 #[data0, (.int .i64 a1), (.int .i64 b2)] w (.two (.int .i64) (.int .i64)) fun (x46_184 : Int × Int) w_183 => (((x46_184.2 == (2 : Int)) = true → (Fc Try.prog 94 #[data0, (.int .i64 a1), (.int .i64 b2)] w_183 .unit fun (x54_186 : Unit) w_185 => ((wasBalanced8 = true → ((wasPartitioned9 = true → ((((1 : Int) == (1 : Int)) = true → (Fc Try.prog 95 #[data0, (.int .i64 a1), (.int .i64 b2)] w_185 (.one .bool) fun (x72_188 : Bool) w_187 => ((x72_188 = true → R () w_187) ∧ (x72_188 = false → (∀ w_189, Drew w_187 w_189 → (((decide (a1 > (0 : Int))) = true → (QAll Try.prog (Instr.indexAt 24 data0 (.int .i64 (IntKind.i64.wrap (a1 - (1 : Int))))) .any fun (x79_190 : Value) => (QSub Try.prog (Instr.loadAt 2 x79_190) w_189 (.int .i64) fun (x80_191 : Int) => (QAll Try.prog (Instr.indexAt 24 data0 (.int .i64 (IntKind.i64.wrap ((IntKind.i64.wrap (b2 - (1 : Int))) - (IntKind.i64.wrap (x46_184.1 - a1)))))) .any fun (x83_192 : Value) => (QSub Try.prog (Instr.loadAt 2 x83_192) w_189 (.int .i64) fun (x84_193 : Int) => (Fc Try.prog 96 #[(.int .i64 x80_191), (.int .i64 x84_193)] w_189 (.one .bool) fun (x85_195 : Bool) w_194 => (((!x85_195) = true → (Fc Try.prog 97 #[data0, (.int .i64 a1), (.int .i64 b2), (.int .i64 (IntKind.i64.wrap ((IntKind.i64.wrap (b2 - (1 : Int))) - (IntKind.i64.wrap (x46_184.1 - a1)))))] w_194 (.one (.int .i64)) fun (x92_197 : Int) w_196 => N (data0 : Value) (x92_197, b2, limit3, wasBalanced8, wasPartitioned9) w_196)) ∧ ((!x85_195) = false → (Fc Try.prog 98 #[data0, (.int .i64 a1), (.int .i64 b2), (.int .i64 (IntKind.i64.wrap ((IntKind.i64.wrap (b2 - (1 : Int))) - (IntKind.i64.wrap (x46_184.1 - a1)))))] w_194 (.two (.int .i64) .bool) fun (x99_199 : Int × Bool) w_198 => ((8 : Int) ≠ 0 ∧ (((decide ((IntKind.i64.wrap (x99_199.1 - a1)) < (IntKind.i64.wrap (b2 - x99_199.1)))) = true → (Fc Try.prog 87 #[data0, (.int .i64 a1), (.int .i64 x99_199.1), (.int .i64 limit3)] w_198 .unit fun (x121_201 : Unit) w_200 => N (data0 : Value) ((IntKind.i64.wrap (x99_199.1 + (1 : Int))), b2, limit3, (decide ((IntKind.i64.wrap (x99_199.1 - a1)) ≥ (IntKind.i64.wrap (Int.tdiv (IntKind.i64.wrap (b2 - a1)) (8 : Int))))), x99_199.2) w_200)) ∧ ((decide ((IntKind.i64.wrap (x99_199.1 - a1)) < (IntKind.i64.wrap (b2 - x99_199.1)))) = false → (Fc Try.prog 87 #[data0, (.int .i64 (IntKind.i64.wrap (x99_199.1 + (1 : Int)))), (.int .i64 b2), (.int .i64 limit3)] w_198 .unit fun (x132_203 : Unit) w_202 => N (data0 : Value) (a1, x99_199.1, limit3, (decide ((IntKind.i64.wrap (b2 - x99_199.1)) ≥ (IntKind.i64.wrap (Int.tdiv (IntKind.i64.wrap (b2 - a1)) (8 : Int))))), x99_199.2) w_202))))))))))))) ∧ ((decide (a1 > (0 : Int))) = false → (Fc Try.prog 98 #[data0, (.int .i64 a1), (.int .i64 b2), (.int .i64 (IntKind.i64.wrap ((IntKind.i64.wrap (b2 - (1 : Int))) - (IntKind.i64.wrap (x46_184.1 - a1)))))] w_189 (.two (.int .i64) .bool) fun (x99_205 : Int × Bool) w_204 => ((8 : Int) ≠ 0 ∧ (((decide ((IntKind.i64.wrap (x99_205.1 - a1)) < (IntKind.i64.wrap (b2 - x99_205.1)))) = true → (Fc Try.prog 87 #[data0, (.int .i64 a1), (.int .i64 x99_205.1), (.int .i64 limit3)] w_204 .unit fun (x121_207 : Unit) w_206 => N (data0 : Value) ((IntKind.i64.wrap (x99_205.1 + (1 : Int))), b2, limit3, (decide ((IntKind.i64.wrap (x99_205.1 - a1)) ≥ (IntKind.i64.wrap (Int.tdiv (IntKind.i64.wrap (b2 - a1)) (8 : Int))))), x99_205.2) w_206)) ∧ ((decide ((IntKind.i64.wrap (x99_205.1 - a1)) < (IntKind.i64.wrap (b2 - x99_205.1)))) = false → (Fc Try.prog 87 #[data0, (.int .i64 (IntKind.i64.wrap (x99_205.1 + (1 : Int)))), (.int .i64 b2), (.int .i64 limit3)] w_204 .unit fun (x132_209 : Unit) w_208 => N (data0 : Value) (a1, x99_205.1, limit3, (decide ((IntKind.i64.wrap (b2 - x99_205.1)) ≥ (IntKind.i64.wrap (Int.tdiv (IntKind.i64.wrap (b2 - a1)) (8 : Int))))), x99_205.2) w_208)))))))))))) ∧ (((1 : Int) == (1 : Int)) = false → (∀ w_210, Drew w_185 w_210 → (((decide (a1 > (0 : Int))) = true → (QAll Try.prog (Instr.indexAt 24 data0 (.int .i64 (IntKind.i64.wrap (a1 - (1 : Int))))) .any fun (x79_211 : Value) => (QSub Try.prog (Instr.loadAt 2 x79_211) w_210 (.int .i64) fun (x80_212 : Int) => (QAll Try.prog (Instr.indexAt 24 data0 (.int .i64 (IntKind.i64.wrap ((IntKind.i64.wrap (b2 - (1 : Int))) - (IntKind.i64.wrap (x46_184.1 - a1)))))) .any fun (x83_213 : Value) => (QSub Try.prog (Instr.loadAt 2 x83_213) w_210 (.int .i64) fun (x84_214 : Int) => (Fc Try.prog 96 #[(.int .i64 x80_212), (.int .i64 x84_214)] w_210 (.one .bool) fun (x85_216 : Bool) w_215 => (((!x85_216) = true → (Fc Try.prog 97 #[data0, (.int .i64 a1), (.int .i64 b2), (.int .i64 (IntKind.i64.wrap ((IntKind.i64.wrap (b2 - (1 : Int))) - (IntKind.i64.wrap (x46_184.1 - a1)))))] w_215 (.one (.int .i64)) fun (x92_218 : Int) w_217 => N (data0 : Value) (x92_218, b2, limit3, wasBalanced8, wasPartitioned9) w_217)) ∧ ((!x85_216) = false → (Fc Try.prog 98 #[data0, (.int .i64 a1), (.int .i64 b2), (.int .i64 (IntKind.i64.wrap ((IntKind.i64.wrap (b2 - (1 : Int))) - (IntKind.i64.wrap (x46_184.1 - a1)))))] w_215 (.two (.int .i64) .bool) fun (x99_220 : Int × Bool) w_219 => ((8 : Int) ≠ 0 ∧ (((decide ((IntKind.i64.wrap (x99_220.1 - a1)) < (IntKind.i64.wrap (b2 - x99_220.1)))) = true → (Fc Try.prog 87 #[data0, (.int .i64 a1), (.int .i64 x99_220.1), (.int .i64 limit3)] w_219 .unit fun (x121_222 : Unit) w_221 => N (data0 : Value) ((IntKind.i64.wrap (x99_220.1 + (1 : Int))), b2, limit3, (decide ((IntKind.i64.wrap (x99_220.1 - a1)) ≥ (IntKind.i64.wrap (Int.tdiv (IntKind.i64.wrap (b2 - a1)) (8 : Int))))), x99_220.2) w_221)) ∧ ((decide ((IntKind.i64.wrap (x99_220.1 - a1)) < (IntKind.i64.wrap (b2 - x99_220.1)))) = false → (Fc Try.prog 87 #[data0, (.int .i64 (IntKind.i64.wrap (x99_220.1 + (1 : Int)))), (.int .i64 b2), (.int .i64 limit3)] w_219 .unit fun (x132_224 : Unit) w_223 => N (data0 : Value) (a1, x99_220.1, limit3, (decide ((IntKind.i64.wrap (b2 - x99_220.1)) ≥ (IntKind.i64.wrap (Int.tdiv (IntKind.i64.wrap (b2 - a1)) (8 : Int))))), x99_220.2) w_223))))))))))))) ∧ ((decide (a1 > (0 : Int))) = false → (Fc Try.prog 98 #[data0, (.int .i64 a1), (.int .i64 b2), (.int .i64 (IntKind.i64.wrap ((IntKind.i64.wrap (b2 - (1 : Int))) - (IntKind.i64.wrap (x46_184.1 - a1)))))] w_210 (.two (.int .i64) .bool) fun (x99_226 : Int × Bool) w_225 => ((8 : Int) ≠ 0 ∧ (((decide ((IntKind.i64.wrap (x99_226.1 - a1)) < (IntKind.i64.wrap (b2 - x99_226.1)))) = true → (Fc Try.prog 87 #[data0, (.int .i64 a1), (.int .i64 x99_226.1), (.int .i64 limit3)] w_225 .unit fun (x121_228 : Unit) w_227 => N (data0 : Value) ((IntKind.i64.wrap (x99_226.1 + (1 : Int))), b2, limit3, (decide ((IntKind.i64.wrap (x99_226.1 - a1)) ≥ (IntKind.i64.wrap (Int.tdiv (IntKind.i64.wrap (b2 - a1)) (8 : Int))))), x99_226.2) w_227)) ∧ ((decide ((IntKind.i64.wrap (x99_226.1 - a1)) < (IntKind.i64.wrap (b2 - x99_226.1)))) = false → (Fc Try.prog 87 #[data0, (.int .i64 (IntKind.i64.wrap (x99_226.1 + (1 : Int)))), (.int .i64 b2), (.int .i64 limit3)] w_225 .unit fun (x132_230 : Unit) w_229 => N (data0 : Value) (a1, x99_226.1, limit3, (decide ((IntKind.i64.wrap (b2 - x99_226.1)) ≥ (IntKind.i64.wrap (Int.tdiv (IntKind.i64.wrap (b2 - a1)) (8 : Int))))), x99_226.2) w_229))))))))))) ∧ (wasPartitioned9 = false → (∀ w_231, Drew w_185 w_231 → (((decide (a1 > (0 : Int))) = true → (QAll Try.prog (Instr.indexAt 24 data0 (.int .i64 (IntKind.i64.wrap (a1 - (1 : Int))))) .any fun (x79_232 : Value) => (QSub Try.prog (Instr.loadAt 2 x79_232) w_231 (.int .i64) fun (x80_233 : Int) => (QAll Try.prog (Instr.indexAt 24 data0 (.int .i64 (IntKind.i64.wrap ((IntKind.i64.wrap (b2 - (1 : Int))) - (IntKind.i64.wrap (x46_184.1 - a1)))))) .any fun (x83_234 : Value) => (QSub Try.prog (Instr.loadAt 2 x83_234) w_231 (.int .i64) fun (x84_235 : Int) => (Fc Try.prog 96 #[(.int .i64 x80_233), (.int .i64 x84_235)] w_231 (.one .bool) fun (x85_237 : Bool) w_236 => (((!x85_237) = true → (Fc Try.prog 97 #[data0, (.int .i64 a1), (.int .i64 b2), (.int .i64 (IntKind.i64.wrap ((IntKind.i64.wrap (b2 - (1 : Int))) - (IntKind.i64.wrap (x46_184.1 - a1)))))] w_236 (.one (.int .i64)) fun (x92_239 : Int) w_238 => N (data0 : Value) (x92_239, b2, limit3, wasBalanced8, wasPartitioned9) w_238)) ∧ ((!x85_237) = false → (Fc Try.prog 98 #[data0, (.int .i64 a1), (.int .i64 b2), (.int .i64 (IntKind.i64.wrap ((IntKind.i64.wrap (b2 - (1 : Int))) - (IntKind.i64.wrap (x46_184.1 - a1)))))] w_236 (.two (.int .i64) .bool) fun (x99_241 : Int × Bool) w_240 => ((8 : Int) ≠ 0 ∧ (((decide ((IntKind.i64.wrap (x99_241.1 - a1)) < (IntKind.i64.wrap (b2 - x99_241.1)))) = true → (Fc Try.prog 87 #[data0, (.int .i64 a1), (.int .i64 x99_241.1), (.int .i64 limit3)] w_240 .unit fun (x121_243 : Unit) w_242 => N (data0 : Value) ((IntKind.i64.wrap (x99_241.1 + (1 : Int))), b2, limit3, (decide ((IntKind.i64.wrap (x99_241.1 - a1)) ≥ (IntKind.i64.wrap (Int.tdiv (IntKind.i64.wrap (b2 - a1)) (8 : Int))))), x99_241.2) w_242)) ∧ ((decide ((IntKind.i64.wrap (x99_241.1 - a1)) < (IntKind.i64.wrap (b2 - x99_241.1)))) = false → (Fc Try.prog 87 #[data0, (.int .i64 (IntKind.i64.wrap (x99_241.1 + (1 : Int)))), (.int .i64 b2), (.int .i64 limit3)] w_240 .unit fun (x132_245 : Unit) w_244 => N (data0 : Value) (a1, x99_241.1, limit3, (decide ((IntKind.i64.wrap (b2 - x99_241.1)) ≥ (IntKind.i64.wrap (Int.tdiv (IntKind.i64.wrap (b2 - a1)) (8 : Int))))), x99_241.2) w_244))))))))))))) ∧ ((decide (a1 > (0 : Int))) = false → (Fc Try.prog 98 #[data0, (.int .i64 a1), (.int .i64 b2), (.int .i64 (IntKind.i64.wrap ((IntKind.i64.wrap (b2 - (1 : Int))) - (IntKind.i64.wrap (x46_184.1 - a1)))))] w_231 (.two (.int .i64) .bool) fun (x99_247 : Int × Bool) w_246 => ((8 : Int) ≠ 0 ∧ (((decide ((IntKind.i64.wrap (x99_247.1 - a1)) < (IntKind.i64.wrap (b2 - x99_247.1)))) = true → (Fc Try.prog 87 #[data0, (.int .i64 a1), (.int .i64 x99_247.1), (.int .i64 limit3)] w_246 .unit fun (x121_249 : Unit) w_248 => N (data0 : Value) ((IntKind.i64.wrap (x99_247.1 + (1 : Int))), b2, limit3, (decide ((IntKind.i64.wrap (x99_247.1 - a1)) ≥ (IntKind.i64.wrap (Int.tdiv (IntKind.i64.wrap (b2 - a1)) (8 : Int))))), x99_247.2) w_248)) ∧ ((decide ((IntKind.i64.wrap (x99_247.1 - a1)) < (IntKind.i64.wrap (b2 - x99_247.1)))) = false → (Fc Try.prog 87 #[data0, (.int .i64 (IntKind.i64.wrap (x99_247.1 + (1 : Int)))), (.int .i64 b2), (.int .i64 limit3)] w_246 .unit fun (x132_251 : Unit) w_250 => N (data0 : Value) (a1, x99_247.1, limit3, (decide ((IntKind.i64.wrap (b2 - x99_247.1)) ≥ (IntKind.i64.wrap (Int.tdiv (IntKind.i64.wrap (b2 - a1)) (8 : Int))))), x99_247.2) w_250))))))))))) ∧ (wasBalanced8 = false → (∀ w_252, Drew w_185 w_252 → (((decide (a1 > (0 : Int))) = true → (QAll Try.prog (Instr.indexAt 24 data0 (.int .i64 (IntKind.i64.wrap (a1 - (1 : Int))))) .any fun (x79_253 : Value) => (QSub Try.prog (Instr.loadAt 2 x79_253) w_252 (.int .i64) fun (x80_254 : Int) => (QAll Try.prog (Instr.indexAt 24 data0 (.int .i64 (IntKind.i64.wrap ((IntKind.i64.wrap (b2 - (1 : Int))) - (IntKind.i64.wrap (x46_184.1 - a1)))))) .any fun (x83_255 : Value) => (QSub Try.prog (Instr.loadAt 2 x83_255) w_252 (.int .i64) fun (x84_256 : Int) => (Fc Try.prog 96 #[(.int .i64 x80_254), (.int .i64 x84_256)] w_252 (.one .bool) fun (x85_258 : Bool) w_257 => (((!x85_258) = true → (Fc Try.prog 97 #[data0, (.int .i64 a1), (.int .i64 b2), (.int .i64 (IntKind.i64.wrap ((IntKind.i64.wrap (b2 - (1 : Int))) - (IntKind.i64.wrap (x46_184.1 - a1)))))] w_257 (.one (.int .i64)) fun (x92_260 : Int) w_259 => N (data0 : Value) (x92_260, b2, limit3, wasBalanced8, wasPartitioned9) w_259)) ∧ ((!x85_258) = false → (Fc Try.prog 98 #[data0, (.int .i64 a1), (.int .i64 b2), (.int .i64 (IntKind.i64.wrap ((IntKind.i64.wrap (b2 - (1 : Int))) - (IntKind.i64.wrap (x46_184.1 - a1)))))] w_257 (.two (.int .i64) .bool) fun (x99_262 : Int × Bool) w_261 => ((8 : Int) ≠ 0 ∧ (((decide ((IntKind.i64.wrap (x99_262.1 - a1)) < (IntKind.i64.wrap (b2 - x99_262.1)))) = true → (Fc Try.prog 87 #[data0, (.int .i64 a1), (.int .i64 x99_262.1), (.int .i64 limit3)] w_261 .unit fun (x121_264 : Unit) w_263 => N (data0 : Value) ((IntKind.i64.wrap (x99_262.1 + (1 : Int))), b2, limit3, (decide ((IntKind.i64.wrap (x99_262.1 - a1)) ≥ (IntKind.i64.wrap (Int.tdiv (IntKind.i64.wrap (b2 - a1)) (8 : Int))))), x99_262.2) w_263)) ∧ ((decide ((IntKind.i64.wrap (x99_262.1 - a1)) < (IntKind.i64.wrap (b2 - x99_262.1)))) = false → (Fc Try.prog 87 #[data0, (.int .i64 (IntKind.i64.wrap (x99_262.1 + (1 : Int)))), (.int .i64 b2), (.int .i64 limit3)] w_261 .unit fun (x132_266 : Unit) w_265 => N (data0 : Value) (a1, x99_262.1, limit3, (decide ((IntKind.i64.wrap (b2 - x99_262.1)) ≥ (IntKind.i64.wrap (Int.tdiv (IntKind.i64.wrap (b2 - a1)) (8 : Int))))), x99_262.2) w_265))))))))))))) ∧ ((decide (a1 > (0 : Int))) = false → (Fc Try.prog 98 #[data0, (.int .i64 a1), (.int .i64 b2), (.int .i64 (IntKind.i64.wrap ((IntKind.i64.wrap (b2 - (1 : Int))) - (IntKind.i64.wrap (x46_184.1 - a1)))))] w_252 (.two (.int .i64) .bool) fun (x99_268 : Int × Bool) w_267 => ((8 : Int) ≠ 0 ∧ (((decide ((IntKind.i64.wrap (x99_268.1 - a1)) < (IntKind.i64.wrap (b2 - x99_268.1)))) = true → (Fc Try.prog 87 #[data0, (.int .i64 a1), (.int .i64 x99_268.1), (.int .i64 limit3)] w_267 .unit fun (x121_270 : Unit) w_269 => N (data0 : Value) ((IntKind.i64.wrap (x99_268.1 + (1 : Int))), b2, limit3, (decide ((IntKind.i64.wrap (x99_268.1 - a1)) ≥ (IntKind.i64.wrap (Int.tdiv (IntKind.i64.wrap (b2 - a1)) (8 : Int))))), x99_268.2) w_269)) ∧ ((decide ((IntKind.i64.wrap (x99_268.1 - a1)) < (IntKind.i64.wrap (b2 - x99_268.1)))) = false → (Fc Try.prog 87 #[data0, (.int .i64 (IntKind.i64.wrap (x99_268.1 + (1 : Int)))), (.int .i64 b2), (.int .i64 limit3)] w_267 .unit fun (x132_272 : Unit) w_271 => N (data0 : Value) (a1, x99_268.1, limit3, (decide ((IntKind.i64.wrap (b2 - x99_268.1)) ≥ (IntKind.i64.wrap (Int.tdiv (IntKind.i64.wrap (b2 - a1)) (8 : Int))))), x99_268.2) w_271)))))))))))) ∧ ((x46_184.2 == (2 : Int)) = false → ((wasBalanced8 = true → ((wasPartitioned9 = true → (((x46_184.2 == (1 : Int)) = true → (Fc Try.prog 95 #[data0, (.int .i64 a1), (.int .i64 b2)] w_183 (.one .bool) fun (x72_274 : Bool) w_273 => ((x72_274 = true → R () w_273) ∧ (x72_274 = false → (∀ w_275, Drew w_273 w_275 → (((decide (a1 > (0 : Int))) = true → (QAll Try.prog (Instr.indexAt 24 data0 (.int .i64 (IntKind.i64.wrap (a1 - (1 : Int))))) .any fun (x79_276 : Value) => (QSub Try.prog (Instr.loadAt 2 x79_276) w_275 (.int .i64) fun (x80_277 : Int) => (QAll Try.prog (Instr.indexAt 24 data0 (.int .i64 x46_184.1)) .any fun (x83_278 : Value) => (QSub Try.prog (Instr.loadAt 2 x83_278) w_275 (.int .i64) fun (x84_279 : Int) => (Fc Try.prog 96 #[(.int .i64 x80_277), (.int .i64 x84_279)] w_275 (.one .bool) fun (x85_281 : Bool) w_280 => (((!x85_281) = true → (Fc Try.prog 97 #[data0, (.int .i64 a1), (.int .i64 b2), (.int .i64 x46_184.1)] w_280 (.one (.int .i64)) fun (x92_283 : Int) w_282 => N (data0 : Value) (x92_283, b2, limit3, wasBalanced8, wasPartitioned9) w_282)) ∧ ((!x85_281) = false → (Fc Try.prog 98 #[data0, (.int .i64 a1), (.int .i64 b2), (.int .i64 x46_184.1)] w_280 (.two (.int .i64) .bool) fun (x99_285 : Int × Bool) w_284 => ((8 : Int) ≠ 0 ∧ (((decide ((IntKind.i64.wrap (x99_285.1 - a1)) < (IntKind.i64.wrap (b2 - x99_285.1)))) = true → (Fc Try.prog 87 #[data0, (.int .i64 a1), (.int .i64 x99_285.1), (.int .i64 limit3)] w_284 .unit fun (x121_287 : Unit) w_286 => N (data0 : Value) ((IntKind.i64.wrap (x99_285.1 + (1 : Int))), b2, limit3, (decide ((IntKind.i64.wrap (x99_285.1 - a1)) ≥ (IntKind.i64.wrap (Int.tdiv (IntKind.i64.wrap (b2 - a1)) (8 : Int))))), x99_285.2) w_286)) ∧ ((decide ((IntKind.i64.wrap (x99_285.1 - a1)) < (IntKind.i64.wrap (b2 - x99_285.1)))) = false → (Fc Try.prog 87 #[data0, (.int .i64 (IntKind.i64.wrap (x99_285.1 + (1 : Int)))), (.int .i64 b2), (.int .i64 limit3)] w_284 .unit fun (x132_289 : Unit) w_288 => N (data0 : Value) (a1, x99_285.1, limit3, (decide ((IntKind.i64.wrap (b2 - x99_285.1)) ≥ (IntKind.i64.wrap (Int.tdiv (IntKind.i64.wrap (b2 - a1)) (8 : Int))))), x99_285.2) w_288))))))))))))) ∧ ((decide (a1 > (0 : Int))) = false → (Fc Try.prog 98 #[data0, (.int .i64 a1), (.int .i64 b2), (.int .i64 x46_184.1)] w_275 (.two (.int .i64) .bool) fun (x99_291 : Int × Bool) w_290 => ((8 : Int) ≠ 0 ∧ (((decide ((IntKind.i64.wrap (x99_291.1 - a1)) < (IntKind.i64.wrap (b2 - x99_291.1)))) = true → (Fc Try.prog 87 #[data0, (.int .i64 a1), (.int .i64 x99_291.1), (.int .i64 limit3)] w_290 .unit fun (x121_293 : Unit) w_292 => N (data0 : Value) ((IntKind.i64.wrap (x99_291.1 + (1 : Int))), b2, limit3, (decide ((IntKind.i64.wrap (x99_291.1 - a1)) ≥ (IntKind.i64.wrap (Int.tdiv (IntKind.i64.wrap (b2 - a1)) (8 : Int))))), x99_291.2) w_292)) ∧ ((decide ((IntKind.i64.wrap (x99_291.1 - a1)) < (IntKind.i64.wrap (b2 - x99_291.1)))) = false → (Fc Try.prog 87 #[data0, (.int .i64 (IntKind.i64.wrap (x99_291.1 + (1 : Int)))), (.int .i64 b2), (.int .i64 limit3)] w_290 .unit fun (x132_295 : Unit) w_294 => N (data0 : Value) (a1, x99_291.1, limit3, (decide ((IntKind.i64.wrap (b2 - x99_291.1)) ≥ (IntKind.i64.wrap (Int.tdiv (IntKind.i64.wrap (b2 - a1)) (8 : Int))))), x99_291.2) w_294)))))))))))) ∧ ((x46_184.2 == (1 : Int)) = false → (∀ w_296, Drew w_183 w_296 → (((decide (a1 > (0 : Int))) = true → (QAll Try.prog (Instr.indexAt 24 data0 (.int .i64 (IntKind.i64.wrap (a1 - (1 : Int))))) .any fun (x79_297 : Value) => (QSub Try.prog (Instr.loadAt 2 x79_297) w_296 (.int .i64) fun (x80_298 : Int) => (QAll Try.prog (Instr.indexAt 24 data0 (.int .i64 x46_184.1)) .any fun (x83_299 : Value) => (QSub Try.prog (Instr.loadAt 2 x83_299) w_296 (.int .i64) fun (x84_300 : Int) => (Fc Try.prog 96 #[(.int .i64 x80_298), (.int .i64 x84_300)] w_296 (.one .bool) fun (x85_302 : Bool) w_301 => (((!x85_302) = true → (Fc Try.prog 97 #[data0, (.int .i64 a1), (.int .i64 b2), (.int .i64 x46_184.1)] w_301 (.one (.int .i64)) fun (x92_304 : Int) w_303 => N (data0 : Value) (x92_304, b2, limit3, wasBalanced8, wasPartitioned9) w_303)) ∧ ((!x85_302) = false → (Fc Try.prog 98 #[data0, (.int .i64 a1), (.int .i64 b2), (.int .i64 x46_184.1)] w_301 (.two (.int .i64) .bool) fun (x99_306 : Int × Bool) w_305 => ((8 : Int) ≠ 0 ∧ (((decide ((IntKind.i64.wrap (x99_306.1 - a1)) < (IntKind.i64.wrap (b2 - x99_306.1)))) = true → (Fc Try.prog 87 #[data0, (.int .i64 a1), (.int .i64 x99_306.1), (.int .i64 limit3)] w_305 .unit fun (x121_308 : Unit) w_307 => N (data0 : Value) ((IntKind.i64.wrap (x99_306.1 + (1 : Int))), b2, limit3, (decide ((IntKind.i64.wrap (x99_306.1 - a1)) ≥ (IntKind.i64.wrap (Int.tdiv (IntKind.i64.wrap (b2 - a1)) (8 : Int))))), x99_306.2) w_307)) ∧ ((decide ((IntKind.i64.wrap (x99_306.1 - a1)) < (IntKind.i64.wrap (b2 - x99_306.1)))) = false → (Fc Try.prog 87 #[data0, (.int .i64 (IntKind.i64.wrap (x99_306.1 + (1 : Int)))), (.int .i64 b2), (.int .i64 limit3)] w_305 .unit fun (x132_310 : Unit) w_309 => N (data0 : Value) (a1, x99_306.1, limit3, (decide ((IntKind.i64.wrap (b2 - x99_306.1)) ≥ (IntKind.i64.wrap (Int.tdiv (IntKind.i64.wrap (b2 - a1)) (8 : Int))))), x99_306.2) w_309))))))))))))) ∧ ((decide (a1 > (0 : Int))) = false → (Fc Try.prog 98 #[data0, (.int .i64 a1), (.int .i64 b2), (.int .i64 x46_184.1)] w_296 (.two (.int .i64) .bool) fun (x99_312 : Int × Bool) w_311 => ((8 : Int) ≠ 0 ∧ (((decide ((IntKind.i64.wrap (x99_312.1 - a1)) < (IntKind.i64.wrap (b2 - x99_312.1)))) = true → (Fc Try.prog 87 #[data0, (.int .i64 a1), (.int .i64 x99_312.1), (.int .i64 limit3)] w_311 .unit fun (x121_314 : Unit) w_313 => N (data0 : Value) ((IntKind.i64.wrap (x99_312.1 + (1 : Int))), b2, limit3, (decide ((IntKind.i64.wrap (x99_312.1 - a1)) ≥ (IntKind.i64.wrap (Int.tdiv (IntKind.i64.wrap (b2 - a1)) (8 : Int))))), x99_312.2) w_313)) ∧ ((decide ((IntKind.i64.wrap (x99_312.1 - a1)) < (IntKind.i64.wrap (b2 - x99_312.1)))) = false → (Fc Try.prog 87 #[data0, (.int .i64 (IntKind.i64.wrap (x99_312.1 + (1 : Int)))), (.int .i64 b2), (.int .i64 limit3)] w_311 .unit fun (x132_316 : Unit) w_315 => N (data0 : Value) (a1, x99_312.1, limit3, (decide ((IntKind.i64.wrap (b2 - x99_312.1)) ≥ (IntKind.i64.wrap (Int.tdiv (IntKind.i64.wrap (b2 - a1)) (8 : Int))))), x99_312.2) w_315))))))))))) ∧ (wasPartitioned9 = false → (∀ w_317, Drew w_183 w_317 → (((decide (a1 > (0 : Int))) = true → (QAll Try.prog (Instr.indexAt 24 data0 (.int .i64 (IntKind.i64.wrap (a1 - (1 : Int))))) .any fun (x79_318 : Value) => (QSub Try.prog (Instr.loadAt 2 x79_318) w_317 (.int .i64) fun (x80_319 : Int) => (QAll Try.prog (Instr.indexAt 24 data0 (.int .i64 x46_184.1)) .any fun (x83_320 : Value) => (QSub Try.prog (Instr.loadAt 2 x83_320) w_317 (.int .i64) fun (x84_321 : Int) => (Fc Try.prog 96 #[(.int .i64 x80_319), (.int .i64 x84_321)] w_317 (.one .bool) fun (x85_323 : Bool) w_322 => (((!x85_323) = true → (Fc Try.prog 97 #[data0, (.int .i64 a1), (.int .i64 b2), (.int .i64 x46_184.1)] w_322 (.one (.int .i64)) fun (x92_325 : Int) w_324 => N (data0 : Value) (x92_325, b2, limit3, wasBalanced8, wasPartitioned9) w_324)) ∧ ((!x85_323) = false → (Fc Try.prog 98 #[data0, (.int .i64 a1), (.int .i64 b2), (.int .i64 x46_184.1)] w_322 (.two (.int .i64) .bool) fun (x99_327 : Int × Bool) w_326 => ((8 : Int) ≠ 0 ∧ (((decide ((IntKind.i64.wrap (x99_327.1 - a1)) < (IntKind.i64.wrap (b2 - x99_327.1)))) = true → (Fc Try.prog 87 #[data0, (.int .i64 a1), (.int .i64 x99_327.1), (.int .i64 limit3)] w_326 .unit fun (x121_329 : Unit) w_328 => N (data0 : Value) ((IntKind.i64.wrap (x99_327.1 + (1 : Int))), b2, limit3, (decide ((IntKind.i64.wrap (x99_327.1 - a1)) ≥ (IntKind.i64.wrap (Int.tdiv (IntKind.i64.wrap (b2 - a1)) (8 : Int))))), x99_327.2) w_328)) ∧ ((decide ((IntKind.i64.wrap (x99_327.1 - a1)) < (IntKind.i64.wrap (b2 - x99_327.1)))) = false → (Fc Try.prog 87 #[data0, (.int .i64 (IntKind.i64.wrap (x99_327.1 + (1 : Int)))), (.int .i64 b2), (.int .i64 limit3)] w_326 .unit fun (x132_331 : Unit) w_330 => N (data0 : Value) (a1, x99_327.1, limit3, (decide ((IntKind.i64.wrap (b2 - x99_327.1)) ≥ (IntKind.i64.wrap (Int.tdiv (IntKind.i64.wrap (b2 - a1)) (8 : Int))))), x99_327.2) w_330))))))))))))) ∧ ((decide (a1 > (0 : Int))) = false → (Fc Try.prog 98 #[data0, (.int .i64 a1), (.int .i64 b2), (.int .i64 x46_184.1)] w_317 (.two (.int .i64) .bool) fun (x99_333 : Int × Bool) w_332 => ((8 : Int) ≠ 0 ∧ (((decide ((IntKind.i64.wrap (x99_333.1 - a1)) < (IntKind.i64.wrap (b2 - x99_333.1)))) = true → (Fc Try.prog 87 #[data0, (.int .i64 a1), (.int .i64 x99_333.1), (.int .i64 limit3)] w_332 .unit fun (x121_335 : Unit) w_334 => N (data0 : Value) ((IntKind.i64.wrap (x99_333.1 + (1 : Int))), b2, limit3, (decide ((IntKind.i64.wrap (x99_333.1 - a1)) ≥ (IntKind.i64.wrap (Int.tdiv (IntKind.i64.wrap (b2 - a1)) (8 : Int))))), x99_333.2) w_334)) ∧ ((decide ((IntKind.i64.wrap (x99_333.1 - a1)) < (IntKind.i64.wrap (b2 - x99_333.1)))) = false → (Fc Try.prog 87 #[data0, (.int .i64 (IntKind.i64.wrap (x99_333.1 + (1 : Int)))), (.int .i64 b2), (.int .i64 limit3)] w_332 .unit fun (x132_337 : Unit) w_336 => N (data0 : Value) (a1, x99_333.1, limit3, (decide ((IntKind.i64.wrap (b2 - x99_333.1)) ≥ (IntKind.i64.wrap (Int.tdiv (IntKind.i64.wrap (b2 - a1)) (8 : Int))))), x99_333.2) w_336))))))))))) ∧ (wasBalanced8 = false → (∀ w_338, Drew w_183 w_338 → (((decide (a1 > (0 : Int))) = true → (QAll Try.prog (Instr.indexAt 24 data0 (.int .i64 (IntKind.i64.wrap (a1 - (1 : Int))))) .any fun (x79_339 : Value) => (QSub Try.prog (Instr.loadAt 2 x79_339) w_338 (.int .i64) fun (x80_340 : Int) => (QAll Try.prog (Instr.indexAt 24 data0 (.int .i64 x46_184.1)) .any fun (x83_341 : Value) => (QSub Try.prog (Instr.loadAt 2 x83_341) w_338 (.int .i64) fun (x84_342 : Int) => (Fc Try.prog 96 #[(.int .i64 x80_340), (.int .i64 x84_342)] w_338 (.one .bool) fun (x85_344 : Bool) w_343 => (((!x85_344) = true → (Fc Try.prog 97 #[data0, (.int .i64 a1), (.int .i64 b2), (.int .i64 x46_184.1)] w_343 (.one (.int .i64)) fun (x92_346 : Int) w_345 => N (data0 : Value) (x92_346, b2, limit3, wasBalanced8, wasPartitioned9) w_345)) ∧ ((!x85_344) = false → (Fc Try.prog 98 #[data0, (.int .i64 a1), (.int .i64 b2), (.int .i64 x46_184.1)] w_343 (.two (.int .i64) .bool) fun (x99_348 : Int × Bool) w_347 => ((8 : Int) ≠ 0 ∧ (((decide ((IntKind.i64.wrap (x99_348.1 - a1)) < (IntKind.i64.wrap (b2 - x99_348.1)))) = true → (Fc Try.prog 87 #[data0, (.int .i64 a1), (.int .i64 x99_348.1), (.int .i64 limit3)] w_347 .unit fun (x121_350 : Unit) w_349 => N (data0 : Value) ((IntKind.i64.wrap (x99_348.1 + (1 : Int))), b2, limit3, (decide ((IntKind.i64.wrap (x99_348.1 - a1)) ≥ (IntKind.i64.wrap (Int.tdiv (IntKind.i64.wrap (b2 - a1)) (8 : Int))))), x99_348.2) w_349)) ∧ ((decide ((IntKind.i64.wrap (x99_348.1 - a1)) < (IntKind.i64.wrap (b2 - x99_348.1)))) = false → (Fc Try.prog 87 #[data0, (.int .i64 (IntKind.i64.wrap (x99_348.1 + (1 : Int)))), (.int .i64 b2), (.int .i64 limit3)] w_347 .unit fun (x132_352 : Unit) w_351 => N (data0 : Value) (a1, x99_348.1, limit3, (decide ((IntKind.i64.wrap (b2 - x99_348.1)) ≥ (IntKind.i64.wrap (Int.tdiv (IntKind.i64.wrap (b2 - a1)) (8 : Int))))), x99_348.2) w_351))))))))))))) ∧ ((decide (a1 > (0 : Int))) = false → (Fc Try.prog 98 #[data0, (.int .i64 a1), (.int .i64 b2), (.int .i64 x46_184.1)] w_338 (.two (.int .i64) .bool) fun (x99_354 : Int × Bool) w_353 => ((8 : Int) ≠ 0 ∧ (((decide ((IntKind.i64.wrap (x99_354.1 - a1)) < (IntKind.i64.wrap (b2 - x99_354.1)))) = true → (Fc Try.prog 87 #[data0, (.int .i64 a1), (.int .i64 x99_354.1), (.int .i64 limit3)] w_353 .unit fun (x121_356 : Unit) w_355 => N (data0 : Value) ((IntKind.i64.wrap (x99_354.1 + (1 : Int))), b2, limit3, (decide ((IntKind.i64.wrap (x99_354.1 - a1)) ≥ (IntKind.i64.wrap (Int.tdiv (IntKind.i64.wrap (b2 - a1)) (8 : Int))))), x99_354.2) w_355)) ∧ ((decide ((IntKind.i64.wrap (x99_354.1 - a1)) < (IntKind.i64.wrap (b2 - x99_354.1)))) = false → (Fc Try.prog 87 #[data0, (.int .i64 (IntKind.i64.wrap (x99_354.1 + (1 : Int)))), (.int .i64 b2), (.int .i64 limit3)] w_353 .unit fun (x132_358 : Unit) w_357 => N (data0 : Value) (a1, x99_354.1, limit3, (decide ((IntKind.i64.wrap (b2 - x99_354.1)) ≥ (IntKind.i64.wrap (Int.tdiv (IntKind.i64.wrap (b2 - a1)) (8 : Int))))), x99_354.2) w_357)))))))))))))))))))

abbrev L_slices_pdqsortOrdered_int64_2_sp : List Slot := [.k .any, .k (.int .i64), .k (.int .i64), .k (.int .i64), .junk, .junk, .junk, .junk, .k .bool, .k .bool, .junk, .junk, .junk, .junk, .junk, .junk, .junk, .junk, .junk, .junk, .junk, .junk, .junk, .junk, .junk, .junk, .junk, .junk, .junk, .junk, .junk, .junk, .junk, .junk, .junk, .junk, .junk, .junk, .junk, .junk, .junk, .junk, .junk, .junk, .junk, .junk, .junk, .junk, .junk, .junk, .junk, .junk, .junk, .junk, .junk, .junk, .junk, .junk, .junk, .junk, .junk, .junk, .junk, .junk, .junk, .junk, .junk, .junk, .junk, .junk, .junk, .junk, .junk, .junk, .junk, .junk, .junk, .junk, .junk, .junk, .junk, .junk, .junk, .junk, .junk, .junk, .junk, .junk, .junk, .junk, .junk, .junk, .junk, .junk, .junk, .junk, .junk, .junk, .junk, .junk, .junk, .junk, .junk, .junk, .junk, .junk, .junk, .junk, .junk, .junk, .junk, .junk, .junk, .junk, .junk, .junk, .junk, .junk, .junk, .junk, .junk, .junk, .junk, .junk, .junk, .junk, .junk, .junk, .junk, .junk, .junk, .junk, .junk, .junk]
abbrev L_slices_pdqsortOrdered_int64_2_ex : List (Nat × List Slot) := []
abbrev L_slices_pdqsortOrdered_int64_2_rt : List Slot := [.junk, .junk, .junk, .junk, .junk, .junk, .junk, .junk, .junk, .junk, .junk, .junk, .junk, .junk, .junk, .junk, .junk, .junk, .junk, .junk, .junk, .junk, .junk, .junk, .junk, .junk, .junk, .junk, .junk, .junk, .junk, .junk, .junk, .junk, .junk, .junk, .junk, .junk, .junk, .junk, .junk, .junk, .junk, .junk, .junk, .junk, .junk, .junk, .junk, .junk, .junk, .junk, .junk, .junk, .junk, .junk, .junk, .junk, .junk, .junk, .junk, .junk, .junk, .junk, .junk, .junk, .junk, .junk, .junk, .junk, .junk, .junk, .junk, .junk, .junk, .junk, .junk, .junk, .junk, .junk, .junk, .junk, .junk, .junk, .junk, .junk, .junk, .junk, .junk, .junk, .junk, .junk, .junk, .junk, .junk, .junk, .junk, .junk, .junk, .junk, .junk, .junk, .junk, .junk, .junk, .junk, .junk, .junk, .junk, .junk, .junk, .junk, .junk, .junk, .junk, .junk, .junk, .junk, .junk, .junk, .junk, .junk, .junk, .junk, .junk, .junk, .junk, .junk, .junk, .junk, .junk, .junk, .junk, .junk]

def L_slices_pdqsortOrdered_int64_2_b (Φ : Post) (u : Value) (N : Value → (Int × Int × Int × Bool × Bool) → World → Prop) (s : (Int × Int × Int × Bool × Bool)) (w : World) : Prop :=
  B_slices_pdqsortOrdered_int64_2 u s.1 s.2.1 s.2.2.1 s.2.2.2.1 s.2.2.2.2 N (fun v w => ∀ j : Nat → Value, Φ .ret (mkT j 0 L_slices_pdqsortOrdered_int64_2_rt v) w) w

theorem L_slices_pdqsortOrdered_int64_2_eq (j : Nat → Value) (u : Value) (s : (Int × Int × Int × Bool × Bool)) (N : Value → (Int × Int × Int × Bool × Bool) → World → Prop) (R : (Unit) → World → Prop) (w : World) :
    W Try.prog ty (fun _ _ _ _ => False) (loopAt Try.f87 2) (loopPost L_slices_pdqsortOrdered_int64_2_sp [] ⟨L_slices_pdqsortOrdered_int64_2_rt, R⟩ (fun v w => N ((fun v => v.1) v) ((fun v => (v.2.1, v.2.2.1, v.2.2.2.1, v.2.2.2.2.1, v.2.2.2.2.2.1)) v) w)) (mkT j 0 L_slices_pdqsortOrdered_int64_2_sp ((fun u s => (u, s.1, s.2.1, s.2.2.1, s.2.2.2.1, s.2.2.2.2, ())) u s)) w =
    B_slices_pdqsortOrdered_int64_2 u s.1 s.2.1 s.2.2.1 s.2.2.2.1 s.2.2.2.2 N R w := by
  kernel_rfl

def O_slices_pdqsortOrdered_int64_1 : Code → Post → List SV → World → Prop :=
  orc 2 (loopAt Try.f87 2) L_slices_pdqsortOrdered_int64_2_sp (fun Φ fr w => LOOP (U := Value) (S := (Int × Int × Int × Bool × Bool)) ((fun v => v.1) (extT L_slices_pdqsortOrdered_int64_2_sp fr)) (L_slices_pdqsortOrdered_int64_2_b Φ ((fun v => v.1) (extT L_slices_pdqsortOrdered_int64_2_sp fr))) ((fun v => (v.2.1, v.2.2.1, v.2.2.2.1, v.2.2.2.2.1, v.2.2.2.2.2.1)) (extT L_slices_pdqsortOrdered_int64_2_sp fr)) w) (fun _ _ _ _ => False)

theorem O_slices_pdqsortOrdered_int64_1_ok : Sound Try.prog O_slices_pdqsortOrdered_int64_1 :=
  orc_ok (sound_none _) fun Φ fr w hs h => loop_ok (ty := ty) follows (sound_none _) L_slices_pdqsortOrdered_int64_2_sp (fun v => v.1) (fun v => (v.2.1, v.2.2.1, v.2.2.2.1, v.2.2.2.2.1, v.2.2.2.2.2.1)) (fun u s => (u, s.1, s.2.1, s.2.2.1, s.2.2.2.1, s.2.2.2.2, ())) (fun _ => rfl) L_slices_pdqsortOrdered_int64_2_ex L_slices_pdqsortOrdered_int64_2_rt (body := L_slices_pdqsortOrdered_int64_2_b Φ) (fun j u s w N hb => by
    have e := L_slices_pdqsortOrdered_int64_2_eq j u s N  (doorOf Φ .ret L_slices_pdqsortOrdered_int64_2_rt).D w
    exact Eq.mpr e hb) hs h

def V_slices_pdqsortOrdered_int64 (data0 : Value) (a1 : Int) (b2 : Int) (limit3 : Int) (w : World) (K : Unit → World → Prop) : Prop :=
  (At (loopAt Try.f87 2) (loopAt Try.f87 2) (LOOP (U := Value) (S := (Int × Int × Int × Bool × Bool)) (data0 : Value) (fun N_362 s_363 w_364 => B_slices_pdqsortOrdered_int64_2 (data0 : Value) s_363.1 s_363.2.1 s_363.2.2.1 s_363.2.2.2.1 s_363.2.2.2.2 N_362 (fun (v_359 : (Unit)) w_360 => ∀ _j_361 : Nat → Value, K () w_360) w_364) (a1, b2, limit3, true, true) w))

theorem eq_slices_pdqsortOrdered_int64 (data0 : Value) (a1 : Int) (b2 : Int) (limit3 : Int) (w : World) (K : Unit → World → Prop) :
    W Try.prog ty O_slices_pdqsortOrdered_int64_1 (bodyOf Try.f87) (fnPost Try.prog Try.f87.results.toList .unit K) (frame0 [data0, (.int .i64 a1), (.int .i64 b2), (.int .i64 limit3)] 134) w = V_slices_pdqsortOrdered_int64 data0 a1 b2 limit3 w K := by
  kernel_rfl

theorem body_slices_pdqsortOrdered_int64 : Try.f87.body = some (bodyOf Try.f87) := by kernel_rfl
theorem name_slices_pdqsortOrdered_int64 : (Try.f87.name == "runtime.NumGoroutine") = false := by kernel_rfl

theorem walk_slices_pdqsortOrdered_int64 (data0 : Value) (a1 : Int) (b2 : Int) (limit3 : Int) {w : World} {K : Unit → World → Prop} (h : V_slices_pdqsortOrdered_int64 data0 a1 b2 limit3 w K) : Fc Try.prog 87 #[data0, (.int .i64 a1), (.int .i64 b2), (.int .i64 limit3)] w .unit K :=
  fn_ok follows O_slices_pdqsortOrdered_int64_1_ok Try.func87 name_slices_pdqsortOrdered_int64 body_slices_pdqsortOrdered_int64 Try.ntmps87 [data0, (.int .i64 a1), (.int .i64 b2), (.int .i64 limit3)] (Eq.mpr (eq_slices_pdqsortOrdered_int64 data0 a1 b2 limit3 w K) h)

-- uses S9NbR
/-- Of a short list. -/
theorem c_slices_pdqsortOrdered_int64 {v : Value} {b : Nat} {l : List Int} {lim : Int} {w : World} {K : Unit → World → Prop} (h : OwnI w b v l) (hl : l.length ≤ 12)
    (hK : ∀ w' l', Mod [b] w w' → OwnI w' b v l' → l'.Perm l → Srt l' l'.length → K () w') :
    Fc Try.prog F_slices_pdqsortOrdered_int64 #[v, .int .i64 0, .int .i64 l.length, .int .i64 lim] w .unit K := by
  refine walk_slices_pdqsortOrdered_int64 _ _ _ _ (lp (fun s w' => s = (0, (l.length : Int), lim, true, true) ∧ w' = w) (fun _ _ => 0) ⟨rfl, rfl⟩ ?_)
  rintro s w1 N ⟨es, ew⟩ hN
  subst es; subst ew
  unfold B_slices_pdqsortOrdered_int64_2
  refine ⟨fun _ => c_slices_insertionSortOrdered_int64 h (by omega) fun w' l' m o p s _ => hK w' l' m o p s, fun e => absurd (dec_f e) ?_⟩
  show ¬ ¬ IntKind.i64.wrap ((l.length : Int) - 0) ≤ 12
  rw [wrap_small (by omega) (by omega)]
  omega

end Go.Proofs.Ytlbhpbaeokgmaaa

/- The reading of slices_Sort_int64_int64, and its contract. No condition. -/
namespace Go.Proofs.Ytlbhpbaeokgmaaa
open Go Go.RowKit Eng Mem
set_option linter.unusedVariables false
set_option maxRecDepth 100000
def V_slices_Sort_int64_int64 (x0 : Value) (w : World) (K : Unit → World → Prop) : Prop :=
  (QAll Try.prog (Builtin.len_ #[24] 3 #[x0]) (.int .i64) fun (x4_1 : Int) => (QAll Try.prog (convert 3 88 (.int .i64 x4_1)) (.int .u64) fun (x8_2 : Int) => (Fc Try.prog 88 #[(.int .u64 x8_2)] w (.one (.int .i64)) fun (x9_4 : Int) w_3 => (Fc Try.prog 87 #[x0, (.int .i64 (0 : Int)), (.int .i64 x4_1), (.int .i64 x9_4)] w_3 .unit fun (x10_6 : Unit) w_5 => K () w_5))))

theorem eq_slices_Sort_int64_int64 (x0 : Value) (w : World) (K : Unit → World → Prop) :
    W Try.prog ty (fun _ _ _ _ => False) (bodyOf Try.f83) (fnPost Try.prog Try.f83.results.toList .unit K) (frame0 [x0] 11) w = V_slices_Sort_int64_int64 x0 w K := by
  kernel_rfl

theorem body_slices_Sort_int64_int64 : Try.f83.body = some (bodyOf Try.f83) := by kernel_rfl
theorem name_slices_Sort_int64_int64 : (Try.f83.name == "runtime.NumGoroutine") = false := by kernel_rfl

theorem walk_slices_Sort_int64_int64 (x0 : Value) {w : World} {K : Unit → World → Prop} (h : V_slices_Sort_int64_int64 x0 w K) : Fc Try.prog 83 #[x0] w .unit K :=
  fn_ok follows (sound_none _) Try.func83 name_slices_Sort_int64_int64 body_slices_Sort_int64_int64 Try.ntmps83 [x0] (Eq.mpr (eq_slices_Sort_int64_int64 x0 w K) h)

-- uses S9NbR
/-- Of a short list. -/
theorem c_slices_Sort_int64_int64 {v : Value} {b : Nat} {l : List Int} {w : World} {K : Unit → World → Prop} (h : OwnI w b v l) (hl : l.length ≤ 12)
    (hK : ∀ w' l', Mod [b] w w' → OwnI w' b v l' → l'.Perm l → Srt l' l'.length → K () w') :
    Fc Try.prog F_slices_Sort_int64_int64 #[v] w .unit K := by
  refine walk_slices_Sort_int64_int64 _ (lenI (own_slI h (by omega)) (cvt (by rw [Try.underlying3]; rfl) Try.underlying88 ?_))
  rw [show IntKind.u64.wrap (l.length : Int) = (l.length : Int) from IntWalk.u64_in _ ⟨by omega, by omega⟩]
  exact c_math_bits_Len (by omega) (by omega) fun n => c_slices_pdqsortOrdered_int64 h hl hK

end Go.Proofs.Ytlbhpbaeokgmaaa

/- The reading of slices_Values_int64_int64, and its contract. No condition. -/
namespace Go.Proofs.Ytlbhpbaeokgmaaa
open Go Go.RowKit Eng Mem
set_option linter.unusedVariables false
set_option maxRecDepth 100000
def V_slices_Values_int64_int64 (s0 : Value) (w : World) (K : Value → World → Prop) : Prop :=
  (Pr Try.prog (Instr.box 24 s0) w (.one .any) fun (s1_2 : Value) w_1 => K ((.func (.func 85) #[] #[s1_2]) : Value) w_1)

theorem eq_slices_Values_int64_int64 (s0 : Value) (w : World) (K : Value → World → Prop) :
    W Try.prog ty (fun _ _ _ _ => False) (bodyOf Try.f67) (fnPost Try.prog Try.f67.results.toList (.one .any) K) (frame0 [s0] 4) w = V_slices_Values_int64_int64 s0 w K := by
  kernel_rfl

theorem body_slices_Values_int64_int64 : Try.f67.body = some (bodyOf Try.f67) := by kernel_rfl
theorem name_slices_Values_int64_int64 : (Try.f67.name == "runtime.NumGoroutine") = false := by kernel_rfl

theorem walk_slices_Values_int64_int64 (s0 : Value) {w : World} {K : Value → World → Prop} (h : V_slices_Values_int64_int64 s0 w K) : Fc Try.prog 67 #[s0] w (.one .any) K :=
  fn_ok follows (sound_none _) Try.func67 name_slices_Values_int64_int64 body_slices_Values_int64_int64 Try.ntmps67 [s0] (Eq.mpr (eq_slices_Values_int64_int64 s0 w K) h)

-- uses S9NbR
theorem c_slices_Values_int64_int64 {v : Value} {w : World} {K : Value → World → Prop} (hv : v.cells = #[v]) (hK : ∀ b w', New w w' b (.cells #[v] tSI) → K (.func (.func 85) #[] #[ptr b 0]) w') :
    Fc Try.prog F_slices_Values_int64_int64 #[v] w (.one .any) K :=
  walk_slices_Values_int64_int64 _ (box [v] (by rw [hv]) fun b w' n => hK b w' n)

end Go.Proofs.Ytlbhpbaeokgmaaa

/- The reading of laws_eqInt64S, and its contract. No condition. -/
namespace Go.Proofs.Ytlbhpbaeokgmaaa
open Go Go.RowKit Eng Mem
set_option linter.unusedVariables false
set_option maxRecDepth 100000
def B_laws_eqInt64S_4 (a0 : Value) (b1 : Value) (i5 : Int) (N : (Value × Value) → Int → World → Prop) (D0 : (Unit) → World → Prop) (R : (Bool × Unit) → World → Prop) (w : World) : Prop :=
  (QAll Try.prog (Builtin.len_ #[24] 3 #[a0]) (.int .i64) fun (x13_3 : Int) => (((decide (i5 < x13_3)) = true → (∀ w_4, Drew w w_4 → (QAll Try.prog (Instr.indexAt 24 a0 (.int .i64 i5)) .any fun (x19_5 : Value) => (QSub Try.prog (Instr.loadAt 2 x19_5) w_4 (.int .i64) fun (x20_6 : Int) => (QAll Try.prog (Instr.indexAt 24 b1 (.int .i64 i5)) .any fun (x23_7 : Value) => (QSub Try.prog (Instr.loadAt 2 x23_7) w_4 (.int .i64) fun (x24_8 : Int) => (((x20_6 != x24_8) = true → R (false, ()) w_4) ∧ ((x20_6 != x24_8) = false → N ((a0 : Value), (b1 : Value)) (IntKind.i64.wrap (i5 + (1 : Int))) w_4)))))))) ∧ ((decide (i5 < x13_3)) = false → D0 () w)))

abbrev L_laws_eqInt64S_4_e0 : List Slot := [.junk, .junk, .junk, .junk, .junk, .junk, .junk, .junk, .junk, .junk, .junk, .junk, .junk, .junk, .junk, .junk, .junk, .junk, .junk, .junk, .junk, .junk, .junk, .junk, .junk, .junk]

abbrev L_laws_eqInt64S_4_sp : List Slot := [.k .any, .k .any, .junk, .junk, .junk, .k (.int .i64), .junk, .junk, .junk, .junk, .junk, .junk, .junk, .junk, .junk, .junk, .junk, .junk, .junk, .junk, .junk, .junk, .junk, .junk, .junk, .junk]
abbrev L_laws_eqInt64S_4_ex : List (Nat × List Slot) := [(0, L_laws_eqInt64S_4_e0)]
abbrev L_laws_eqInt64S_4_rt : List Slot := [.junk, .junk, .junk, .junk, .k .bool, .junk, .junk, .junk, .junk, .junk, .junk, .junk, .junk, .junk, .junk, .junk, .junk, .junk, .junk, .junk, .junk, .junk, .junk, .junk, .junk, .junk]

def L_laws_eqInt64S_4_b (Φ : Post) (u : (Value × Value)) (N : (Value × Value) → Int → World → Prop) (s : Int) (w : World) : Prop :=
  B_laws_eqInt64S_4 u.1 u.2 s N (fun v w => ∀ j : Nat → Value, Φ (.exit 0) (mkT j 0 L_laws_eqInt64S_4_e0 v) w) (fun v w => ∀ j : Nat → Value, Φ .ret (mkT j 0 L_laws_eqInt64S_4_rt v) w) w

theorem L_laws_eqInt64S_4_eq (j : Nat → Value) (u : (Value × Value)) (s : Int) (N : (Value × Value) → Int → World → Prop) (D0 : (Unit) → World → Prop) (R : (Bool × Unit) → World → Prop) (w : World) :
    W Try.prog ty (fun _ _ _ _ => False) (loopAt Try.f34 4) (loopPost L_laws_eqInt64S_4_sp [(0, (⟨L_laws_eqInt64S_4_e0, D0⟩ : Door))] ⟨L_laws_eqInt64S_4_rt, R⟩ (fun v w => N ((fun v => (v.1, v.2.1)) v) ((fun v => v.2.2.1) v) w)) (mkT j 0 L_laws_eqInt64S_4_sp ((fun u s => (u.1, u.2, s, ())) u s)) w =
    B_laws_eqInt64S_4 u.1 u.2 s N D0 R w := by
  kernel_rfl

def O_laws_eqInt64S_1 : Code → Post → List SV → World → Prop :=
  orc 4 (loopAt Try.f34 4) L_laws_eqInt64S_4_sp (fun Φ fr w => LOOP (U := (Value × Value)) (S := Int) ((fun v => (v.1, v.2.1)) (extT L_laws_eqInt64S_4_sp fr)) (L_laws_eqInt64S_4_b Φ ((fun v => (v.1, v.2.1)) (extT L_laws_eqInt64S_4_sp fr))) ((fun v => v.2.2.1) (extT L_laws_eqInt64S_4_sp fr)) w) (fun _ _ _ _ => False)

theorem O_laws_eqInt64S_1_ok : Sound Try.prog O_laws_eqInt64S_1 :=
  orc_ok (sound_none _) fun Φ fr w hs h => loop_ok (ty := ty) follows (sound_none _) L_laws_eqInt64S_4_sp (fun v => (v.1, v.2.1)) (fun v => v.2.2.1) (fun u s => (u.1, u.2, s, ())) (fun _ => rfl) L_laws_eqInt64S_4_ex L_laws_eqInt64S_4_rt (body := L_laws_eqInt64S_4_b Φ) (fun j u s w N hb => by
    have e := L_laws_eqInt64S_4_eq j u s N (doorOf Φ (.exit 0) L_laws_eqInt64S_4_e0).D (doorOf Φ .ret L_laws_eqInt64S_4_rt).D w
    exact Eq.mpr e hb) hs h

def V_laws_eqInt64S (a0 : Value) (b1 : Value) (w : World) (K : Bool → World → Prop) : Prop :=
  (QAll Try.prog (Builtin.len_ #[24] 3 #[a0]) (.int .i64) fun (x7_1 : Int) => (QAll Try.prog (Builtin.len_ #[24] 3 #[b1]) (.int .i64) fun (x9_2 : Int) => (((x7_1 != x9_2) = true → K false w) ∧ ((x7_1 != x9_2) = false → (At (loopAt Try.f34 4) (loopAt Try.f34 4) (LOOP (U := (Value × Value)) (S := Int) ((a0 : Value), (b1 : Value)) (fun N_15 s_16 w_17 => B_laws_eqInt64S_4 (a0 : Value) (b1 : Value) s_16 N_15 (fun (v_9 : (Unit)) w_10 => ∀ _j_11 : Nat → Value, K true w_10) (fun (v_12 : (Bool × Unit)) w_13 => ∀ _j_14 : Nat → Value, K v_12.1 w_13) w_17) (0 : Int) w))))))

theorem eq_laws_eqInt64S (a0 : Value) (b1 : Value) (w : World) (K : Bool → World → Prop) :
    W Try.prog ty O_laws_eqInt64S_1 (bodyOf Try.f34) (fnPost Try.prog Try.f34.results.toList (.one .bool) K) (frame0 [a0, b1] 26) w = V_laws_eqInt64S a0 b1 w K := by
  kernel_rfl

theorem body_laws_eqInt64S : Try.f34.body = some (bodyOf Try.f34) := by kernel_rfl
theorem name_laws_eqInt64S : (Try.f34.name == "runtime.NumGoroutine") = false := by kernel_rfl

theorem walk_laws_eqInt64S (a0 : Value) (b1 : Value) {w : World} {K : Bool → World → Prop} (h : V_laws_eqInt64S a0 b1 w K) : Fc Try.prog 34 #[a0, b1] w (.one .bool) K :=
  fn_ok follows O_laws_eqInt64S_1_ok Try.func34 name_laws_eqInt64S body_laws_eqInt64S Try.ntmps34 [a0, b1] (Eq.mpr (eq_laws_eqInt64S a0 b1 w K) h)

-- uses S2Sl
theorem c_laws_eqInt64S {a b : Value} {l m : List Int} {w : World} {K : Bool → World → Prop} (h : SlI w a l) (k : SlI w b m) (hK : ∀ w', Below w.heap.size w w' → K (decide (l = m)) w') :
    Fc Try.prog F_laws_eqInt64S #[a, b] w (.one .bool) K := by
  have hll := h.len; have hml := k.len
  have yes : ∀ w', Below w.heap.size w w' → l = m → K true w' := fun w' hb he => by have := hK w' hb; rwa [decide_eq_true he] at this
  have no : ∀ w', Below w.heap.size w w' → l ≠ m → K false w' := fun w' hb he => by have := hK w' hb; rwa [decide_eq_false he] at this
  refine walk_laws_eqInt64S _ _ ?_
  refine lenI h (lenI k ⟨fun hne => no w (Below.refl _ _) fun he => by simp [he] at hne, fun heq => ?_⟩)
  have heq : l.length = m.length := by have := ne_f heq; omega
  refine lp (fun i w' => 0 ≤ i ∧ i ≤ l.length ∧ Below w.heap.size w w' ∧ ∀ j : Nat, (j : Int) < i → l.getD j 0 = m.getD j 0) (fun i _ => (l.length - i).toNat)
    ⟨by omega, by omega, Below.refl _ _, fun j hj => by omega⟩ ?_
  rintro i w1 N ⟨h0, hi, hb, hall⟩ hN
  unfold B_laws_eqInt64S_4
  refine lenI (h.keep hb) ⟨fun hlt w' hd => ?_, fun hge => ?_⟩
  · have hlt := of_decide_eq_true hlt
    have hb' := hb.trans (hd.below _)
    refine atI (h.keep hb') h0 hlt (atI (k.keep hb') h0 (by omega) ⟨fun hne _ => ?_, fun he => ?_⟩)
    · exact no w' hb' fun hlm => by subst hlm; simp at hne
    · have he : l.getD i.toNat 0 = m.getD i.toNat 0 := by simpa using he
      rw [wrap_small (by omega) (by omega)]
      refine hN _ _ ⟨by omega, by omega, hb', fun j hj => ?_⟩ (by omega)
      by_cases hji : (j : Int) < i
      · exact hall j hji
      · have : j = i.toNat := by omega
        subst this; exact he
  · have hge := of_decide_eq_false hge
    refine fun _ => yes w1 hb (List.ext_getElem heq fun j h1 h2 => ?_)
    have := hall j (by omega)
    simpa [List.getD, h1, h2] using this

end Go.Proofs.Ytlbhpbaeokgmaaa

/- The reading of laws_toInt64S, and its contract. No condition. -/
namespace Go.Proofs.Ytlbhpbaeokgmaaa
open Go Go.RowKit Eng Mem
set_option linter.unusedVariables false
set_option maxRecDepth 100000
def B_laws_toInt64S_3 (a0 : Value) (out3 : Value) (i4 : Int) (N : (Value × Value) → Int → World → Prop) (D0 : (Value × Unit) → World → Prop) (w : World) : Prop :=
  (QAll Try.prog (Builtin.len_ #[24] 3 #[a0]) (.int .i64) fun (x10_4 : Int) => (((decide (i4 < x10_4)) = true → (QAll Try.prog (Instr.indexAt 24 a0 (.int .i64 i4)) .any fun (x18_5 : Value) => (QSub Try.prog (Instr.loadAt 2 x18_5) w (.int .i64) fun (x19_6 : Int) => (QAll Try.prog (Instr.indexAt 24 out3 (.int .i64 i4)) .any fun (x20_7 : Value) => (PrU Try.prog (Instr.storeAt 2 x20_7 (.int .i64 x19_6)) w fun w_8 => N ((a0 : Value), (out3 : Value)) (IntKind.i64.wrap (i4 + (1 : Int))) w_8))))) ∧ ((decide (i4 < x10_4)) = false → D0 ((out3 : Value), ()) w)))

abbrev L_laws_toInt64S_3_e0 : List Slot := [.junk, .junk, .junk, .k .any, .junk, .junk, .junk, .junk, .junk, .junk, .junk, .junk, .junk, .junk, .junk, .junk, .junk, .junk, .junk, .junk, .junk, .junk]

abbrev L_laws_toInt64S_3_sp : List Slot := [.k .any, .junk, .junk, .k .any, .k (.int .i64), .junk, .junk, .junk, .junk, .junk, .junk, .junk, .junk, .junk, .junk, .junk, .junk, .junk, .junk, .junk, .junk, .junk]
abbrev L_laws_toInt64S_3_ex : List (Nat × List Slot) := [(0, L_laws_toInt64S_3_e0)]
abbrev L_laws_toInt64S_3_rt : List Slot := [.junk, .junk, .junk, .junk, .junk, .junk, .junk, .junk, .junk, .junk, .junk, .junk, .junk, .junk, .junk, .junk, .junk, .junk, .junk, .junk, .junk, .junk]

def L_laws_toInt64S_3_b (Φ : Post) (u : (Value × Value)) (N : (Value × Value) → Int → World → Prop) (s : Int) (w : World) : Prop :=
  B_laws_toInt64S_3 u.1 u.2 s N (fun v w => ∀ j : Nat → Value, Φ (.exit 0) (mkT j 0 L_laws_toInt64S_3_e0 v) w) w

theorem L_laws_toInt64S_3_eq (j : Nat → Value) (u : (Value × Value)) (s : Int) (N : (Value × Value) → Int → World → Prop) (D0 : (Value × Unit) → World → Prop) (R : (Unit) → World → Prop) (w : World) :
    W Try.prog ty (fun _ _ _ _ => False) (loopAt Try.f32 3) (loopPost L_laws_toInt64S_3_sp [(0, (⟨L_laws_toInt64S_3_e0, D0⟩ : Door))] ⟨L_laws_toInt64S_3_rt, R⟩ (fun v w => N ((fun v => (v.1, v.2.1)) v) ((fun v => v.2.2.1) v) w)) (mkT j 0 L_laws_toInt64S_3_sp ((fun u s => (u.1, u.2, s, ())) u s)) w =
    B_laws_toInt64S_3 u.1 u.2 s N D0 w := by
  kernel_rfl

def O_laws_toInt64S_1 : Code → Post → List SV → World → Prop :=
  orc 3 (loopAt Try.f32 3) L_laws_toInt64S_3_sp (fun Φ fr w => LOOP (U := (Value × Value)) (S := Int) ((fun v => (v.1, v.2.1)) (extT L_laws_toInt64S_3_sp fr)) (L_laws_toInt64S_3_b Φ ((fun v => (v.1, v.2.1)) (extT L_laws_toInt64S_3_sp fr))) ((fun v => v.2.2.1) (extT L_laws_toInt64S_3_sp fr)) w) (fun _ _ _ _ => False)

theorem O_laws_toInt64S_1_ok : Sound Try.prog O_laws_toInt64S_1 :=
  orc_ok (sound_none _) fun Φ fr w hs h => loop_ok (ty := ty) follows (sound_none _) L_laws_toInt64S_3_sp (fun v => (v.1, v.2.1)) (fun v => v.2.2.1) (fun u s => (u.1, u.2, s, ())) (fun _ => rfl) L_laws_toInt64S_3_ex L_laws_toInt64S_3_rt (body := L_laws_toInt64S_3_b Φ) (fun j u s w N hb => by
    have e := L_laws_toInt64S_3_eq j u s N (doorOf Φ (.exit 0) L_laws_toInt64S_3_e0).D (doorOf Φ .ret L_laws_toInt64S_3_rt).D w
    exact Eq.mpr e hb) hs h

def V_laws_toInt64S (a0 : Value) (w : World) (K : Value → World → Prop) : Prop :=
  (QAll Try.prog (Builtin.len_ #[24] 3 #[a0]) (.int .i64) fun (x6_1 : Int) => (Pr Try.prog (Instr.makeSlice 24 (.int .i64 x6_1) (.int .i64 x6_1)) w (.one .any) fun (x7_3 : Value) w_2 => (At (loopAt Try.f32 3) (loopAt Try.f32 3) (LOOP (U := (Value × Value)) (S := Int) ((a0 : Value), (x7_3 : Value)) (fun N_13 s_14 w_15 => B_laws_toInt64S_3 (a0 : Value) (x7_3 : Value) s_14 N_13 (fun (v_10 : (Value × Unit)) w_11 => ∀ _j_12 : Nat → Value, K (v_10.1 : Value) w_11) w_15) (0 : Int) w_2))))

theorem eq_laws_toInt64S (a0 : Value) (w : World) (K : Value → World → Prop) :
    W Try.prog ty O_laws_toInt64S_1 (bodyOf Try.f32) (fnPost Try.prog Try.f32.results.toList (.one .any) K) (frame0 [a0] 22) w = V_laws_toInt64S a0 w K := by
  kernel_rfl

theorem body_laws_toInt64S : Try.f32.body = some (bodyOf Try.f32) := by kernel_rfl
theorem name_laws_toInt64S : (Try.f32.name == "runtime.NumGoroutine") = false := by kernel_rfl

theorem walk_laws_toInt64S (a0 : Value) {w : World} {K : Value → World → Prop} (h : V_laws_toInt64S a0 w K) : Fc Try.prog 32 #[a0] w (.one .any) K :=
  fn_ok follows O_laws_toInt64S_1_ok Try.func32 name_laws_toInt64S body_laws_toInt64S Try.ntmps32 [a0] (Eq.mpr (eq_laws_toInt64S a0 w K) h)

-- uses S2Sl
theorem c_laws_toInt64S {a : Value} {l : List Int} {w : World} {K : Value → World → Prop} (ha : ArgI w a l) (hK : ∀ v w', Below w.heap.size w w' → MyI w.heap.size w'.heap.size w' v l → K v w') :
    Fc Try.prog F_laws_toInt64S #[a] w (.one .any) K := by
  have h := ha.sl; have hl := ha.len
  refine walk_laws_toInt64S _ ?_
  refine lenI h (mkI (by omega) (by omega) fun b v w1 hn ho => ?_)
  have e := hn.here
  have h1 := h.keep hn.below
  refine lp (fun i w' => 0 ≤ i ∧ i ≤ l.length ∧ Below w.heap.size w w' ∧ OwnI w' b v (l.take i.toNat ++ List.replicate (l.length - i.toNat) 0)) (fun i _ => (l.length - i).toNat)
    ⟨by omega, by omega, hn.below, by simpa using ho⟩ ?_
  rintro i w' N ⟨h0, hi, hb, hO⟩ hN
  have h' := h.keep hb
  unfold B_laws_toInt64S_3
  refine lenI h' ⟨fun hlt => ?_, fun hge => ?_⟩
  · have hlt := of_decide_eq_true hlt
    refine atI h' h0 hlt (putI hO h0 (by simp; omega) fun w2 m hs hO2 => ?_)
    rw [wrap_small (by omega) (by omega)]
    have hs0 := hb.size
    refine hN _ _ ⟨by omega, by omega, hb.trans ((m.below (B := w.heap.size) (by omega) (by simp; omega)).mono (by omega)), ?_⟩ (by omega)
    have : (l.take i.toNat ++ List.replicate (l.length - i.toNat) 0).set i.toNat (l.getD i.toNat 0) = l.take (i + 1).toNat ++ List.replicate (l.length - (i + 1).toNat) 0 := by
      have := fill_step (xs := l) (zs := List.replicate l.length 0) (i := i.toNat) (by omega) (by simp)
      rw [show l.getD i.toNat 0 = l[i.toNat]'(by omega) from by simp [List.getD, show i.toNat < l.length from by omega], show (i + 1).toNat = i.toNat + 1 from by omega]
      simpa using this
    rw [this] at hO2
    exact hO2
  · have hge := of_decide_eq_false hge
    intro _
    have : i = l.length := by omega
    subst this
    have hO : OwnI w' b v l := by simpa using hO
    exact hK _ _ hb (own_my hO (by omega) (by omega) hO.lt)

end Go.Proofs.Ytlbhpbaeokgmaaa

/- The reading of spec_l01In, and its contract. No condition. -/
namespace Go.Proofs.Ytlbhpbaeokgmaaa
open Go Go.RowKit Eng Mem
set_option linter.unusedVariables false
set_option maxRecDepth 100000
def V_spec_l01In (n0 : Int) (low1 : Int) (high2 : Int) (w : World) (K : Bool → World → Prop) : Prop :=
  (((decide (n0 ≥ low1)) = true → K (decide (n0 ≤ high2)) w) ∧ ((decide (n0 ≥ low1)) = false → K false w))

theorem eq_spec_l01In (n0 : Int) (low1 : Int) (high2 : Int) (w : World) (K : Bool → World → Prop) :
    W Try.prog ty (fun _ _ _ _ => False) (bodyOf Try.f53) (fnPost Try.prog Try.f53.results.toList (.one .bool) K) (frame0 [(.int .i64 n0), (.int .i64 low1), (.int .i64 high2)] 15) w = V_spec_l01In n0 low1 high2 w K := by
  kernel_rfl

theorem body_spec_l01In : Try.f53.body = some (bodyOf Try.f53) := by kernel_rfl
theorem name_spec_l01In : (Try.f53.name == "runtime.NumGoroutine") = false := by kernel_rfl

theorem walk_spec_l01In (n0 : Int) (low1 : Int) (high2 : Int) {w : World} {K : Bool → World → Prop} (h : V_spec_l01In n0 low1 high2 w K) : Fc Try.prog 53 #[(.int .i64 n0), (.int .i64 low1), (.int .i64 high2)] w (.one .bool) K :=
  fn_ok follows (sound_none _) Try.func53 name_spec_l01In body_spec_l01In Try.ntmps53 [(.int .i64 n0), (.int .i64 low1), (.int .i64 high2)] (Eq.mpr (eq_spec_l01In n0 low1 high2 w K) h)

theorem c_spec_l01In (n lo hi : Int) {w : World} {K : Bool → World → Prop} (hK : K (decide (lo ≤ n ∧ n ≤ hi)) w) : Fc Try.prog F_spec_l01In #[.int .i64 n, .int .i64 lo, .int .i64 hi] w (.one .bool) K := by
  refine walk_spec_l01In n lo hi ⟨fun h => ?_, fun h => ?_⟩
  · have h := of_decide_eq_true h
    simpa [h] using hK
  · have h := of_decide_eq_false h
    have : ¬ lo ≤ n := h
    simpa [this] using hK

end Go.Proofs.Ytlbhpbaeokgmaaa

/- The reading of spec_l01Own, and its contract. No condition. -/
namespace Go.Proofs.Ytlbhpbaeokgmaaa
open Go Go.RowKit Eng Mem
set_option linter.unusedVariables false
set_option maxRecDepth 100000
def V_spec_l01Own (list0 : Value) (w : World) (K : Value → World → Prop) : Prop :=
  (Pr Try.prog (Instr.buildSlice 24 0 #[]) w (.one .any) fun (x3_2 : Value) w_1 => (Pr Try.prog (Builtin.append_ #[24, 24] 24 #[x3_2, list0]) w_1 (.one .any) fun (x5_4 : Value) w_3 => K (x5_4 : Value) w_3))

theorem eq_spec_l01Own (list0 : Value) (w : World) (K : Value → World → Prop) :
    W Try.prog ty (fun _ _ _ _ => False) (bodyOf Try.f74) (fnPost Try.prog Try.f74.results.toList (.one .any) K) (frame0 [list0] 6) w = V_spec_l01Own list0 w K := by
  kernel_rfl

theorem body_spec_l01Own : Try.f74.body = some (bodyOf Try.f74) := by kernel_rfl
theorem name_spec_l01Own : (Try.f74.name == "runtime.NumGoroutine") = false := by kernel_rfl

theorem walk_spec_l01Own (list0 : Value) {w : World} {K : Value → World → Prop} (h : V_spec_l01Own list0 w K) : Fc Try.prog 74 #[list0] w (.one .any) K :=
  fn_ok follows (sound_none _) Try.func74 name_spec_l01Own body_spec_l01Own Try.ntmps74 [list0] (Eq.mpr (eq_spec_l01Own list0 w K) h)

-- uses S2Sl
theorem c_spec_l01Own {a : Value} {l : List Int} {w : World} {K : Value → World → Prop} (h : SlI w a l) (hl : l.length ≤ 1099511627776) (hK : ∀ w' v b, w.heap.size ≤ b → Below w.heap.size w w' → OwnI w' b v l → K v w') :
    Fc Try.prog F_spec_l01Own #[a] w (.one .any) K := by
  refine walk_spec_l01Own _ (nilI fun b v w1 hb hbel ho => appsI ho (h.keep hbel) (by simpa using hl) fun v' w' b' o m hb' => ?_)
  have hs := hbel.size
  rw [List.nil_append] at o
  exact hK w' v' b' (by omega) (hbel.trans (m.below (by omega) (by simp; omega))) o

end Go.Proofs.Ytlbhpbaeokgmaaa

/- The reading of spec_l08Bound, and its contract. No condition. -/
namespace Go.Proofs.Ytlbhpbaeokgmaaa
open Go Go.RowKit Eng Mem
set_option linter.unusedVariables false
set_option maxRecDepth 100000
def B_spec_l08Bound_3 (sizes0 : Value) (left3 : Value) (i4 : Int) (N : Value → (Value × Int) → World → Prop) (D0 : (Value × Unit) → World → Prop) (R : (Int × Unit) → World → Prop) (w : World) : Prop :=
  (QAll Try.prog (Builtin.len_ #[24] 3 #[sizes0]) (.int .i64) fun (x13_3 : Int) => (((decide (i4 < x13_3)) = true → (QAll Try.prog (Instr.indexAt 24 sizes0 (.int .i64 i4)) .any fun (x19_4 : Value) => (QSub Try.prog (Instr.loadAt 2 x19_4) w (.int .i64) fun (x20_5 : Int) => (((x20_5 == (1 : Int)) = true → R ((1 : Int), ()) w) ∧ ((x20_5 == (1 : Int)) = false → (QAll Try.prog (Instr.indexAt 24 sizes0 (.int .i64 i4)) .any fun (x24_6 : Value) => (QSub Try.prog (Instr.loadAt 2 x24_6) w (.int .i64) fun (x25_7 : Int) => (((decide (x25_7 > (2 : Int))) = true → (QAll Try.prog (Instr.indexAt 24 sizes0 (.int .i64 i4)) .any fun (x30_8 : Value) => (QSub Try.prog (Instr.loadAt 2 x30_8) w (.int .i64) fun (x31_9 : Int) => (Pr Try.prog (Instr.buildSlice 24 1 #[(0, (.int .i64 x31_9))]) w (.one .any) fun (x32_11 : Value) w_10 => (Pr Try.prog (Builtin.append_ #[24, 24] 24 #[left3, x32_11]) w_10 (.one .any) fun (x33_13 : Value) w_12 => N (sizes0 : Value) ((x33_13 : Value), (IntKind.i64.wrap (i4 + (1 : Int)))) w_12))))) ∧ ((decide (x25_7 > (2 : Int))) = false → N (sizes0 : Value) ((left3 : Value), (IntKind.i64.wrap (i4 + (1 : Int)))) w))))))))) ∧ ((decide (i4 < x13_3)) = false → D0 ((left3 : Value), ()) w)))

abbrev L_spec_l08Bound_3_e0 : List Slot := [.junk, .junk, .junk, .k .any, .junk, .junk, .junk, .junk, .junk, .junk, .junk, .junk, .junk, .junk, .junk, .junk, .junk, .junk, .junk, .junk, .junk, .junk, .junk, .junk, .junk, .junk, .junk, .junk, .junk, .junk, .junk, .junk, .junk, .junk, .junk, .junk, .junk, .junk, .junk, .junk, .junk, .junk, .junk, .junk, .junk, .junk, .junk, .junk, .junk, .junk, .junk, .junk, .junk, .junk, .junk, .junk, .junk, .junk, .junk, .junk, .junk, .junk, .junk, .junk, .junk, .junk, .junk, .junk, .junk, .junk, .junk, .junk, .junk, .junk, .junk, .junk, .junk, .junk, .junk, .junk, .junk]

abbrev L_spec_l08Bound_3_sp : List Slot := [.k .any, .junk, .junk, .k .any, .k (.int .i64), .junk, .junk, .junk, .junk, .junk, .junk, .junk, .junk, .junk, .junk, .junk, .junk, .junk, .junk, .junk, .junk, .junk, .junk, .junk, .junk, .junk, .junk, .junk, .junk, .junk, .junk, .junk, .junk, .junk, .junk, .junk, .junk, .junk, .junk, .junk, .junk, .junk, .junk, .junk, .junk, .junk, .junk, .junk, .junk, .junk, .junk, .junk, .junk, .junk, .junk, .junk, .junk, .junk, .junk, .junk, .junk, .junk, .junk, .junk, .junk, .junk, .junk, .junk, .junk, .junk, .junk, .junk, .junk, .junk, .junk, .junk, .junk, .junk, .junk, .junk, .junk]
abbrev L_spec_l08Bound_3_ex : List (Nat × List Slot) := [(0, L_spec_l08Bound_3_e0)]
abbrev L_spec_l08Bound_3_rt : List Slot := [.junk, .junk, .k (.int .i64), .junk, .junk, .junk, .junk, .junk, .junk, .junk, .junk, .junk, .junk, .junk, .junk, .junk, .junk, .junk, .junk, .junk, .junk, .junk, .junk, .junk, .junk, .junk, .junk, .junk, .junk, .junk, .junk, .junk, .junk, .junk, .junk, .junk, .junk, .junk, .junk, .junk, .junk, .junk, .junk, .junk, .junk, .junk, .junk, .junk, .junk, .junk, .junk, .junk, .junk, .junk, .junk, .junk, .junk, .junk, .junk, .junk, .junk, .junk, .junk, .junk, .junk, .junk, .junk, .junk, .junk, .junk, .junk, .junk, .junk, .junk, .junk, .junk, .junk, .junk, .junk, .junk, .junk]

def L_spec_l08Bound_3_b (Φ : Post) (u : Value) (N : Value → (Value × Int) → World → Prop) (s : (Value × Int)) (w : World) : Prop :=
  B_spec_l08Bound_3 u s.1 s.2 N (fun v w => ∀ j : Nat → Value, Φ (.exit 0) (mkT j 0 L_spec_l08Bound_3_e0 v) w) (fun v w => ∀ j : Nat → Value, Φ .ret (mkT j 0 L_spec_l08Bound_3_rt v) w) w

theorem L_spec_l08Bound_3_eq (j : Nat → Value) (u : Value) (s : (Value × Int)) (N : Value → (Value × Int) → World → Prop) (D0 : (Value × Unit) → World → Prop) (R : (Int × Unit) → World → Prop) (w : World) :
    W Try.prog ty (fun _ _ _ _ => False) (loopAt Try.f77 3) (loopPost L_spec_l08Bound_3_sp [(0, (⟨L_spec_l08Bound_3_e0, D0⟩ : Door))] ⟨L_spec_l08Bound_3_rt, R⟩ (fun v w => N ((fun v => v.1) v) ((fun v => (v.2.1, v.2.2.1)) v) w)) (mkT j 0 L_spec_l08Bound_3_sp ((fun u s => (u, s.1, s.2, ())) u s)) w =
    B_spec_l08Bound_3 u s.1 s.2 N D0 R w := by
  kernel_rfl

def O_spec_l08Bound_1 : Code → Post → List SV → World → Prop :=
  orc 3 (loopAt Try.f77 3) L_spec_l08Bound_3_sp (fun Φ fr w => LOOP (U := Value) (S := (Value × Int)) ((fun v => v.1) (extT L_spec_l08Bound_3_sp fr)) (L_spec_l08Bound_3_b Φ ((fun v => v.1) (extT L_spec_l08Bound_3_sp fr))) ((fun v => (v.2.1, v.2.2.1)) (extT L_spec_l08Bound_3_sp fr)) w) (fun _ _ _ _ => False)

theorem O_spec_l08Bound_1_ok : Sound Try.prog O_spec_l08Bound_1 :=
  orc_ok (sound_none _) fun Φ fr w hs h => loop_ok (ty := ty) follows (sound_none _) L_spec_l08Bound_3_sp (fun v => v.1) (fun v => (v.2.1, v.2.2.1)) (fun u s => (u, s.1, s.2, ())) (fun _ => rfl) L_spec_l08Bound_3_ex L_spec_l08Bound_3_rt (body := L_spec_l08Bound_3_b Φ) (fun j u s w N hb => by
    have e := L_spec_l08Bound_3_eq j u s N (doorOf Φ (.exit 0) L_spec_l08Bound_3_e0).D (doorOf Φ .ret L_spec_l08Bound_3_rt).D w
    exact Eq.mpr e hb) hs h

def B_spec_l08Bound_16 (left3 : Value) (sum5 : Int) (even6 : Bool) (i7 : Int) (N : Value → (Int × Bool × Int) → World → Prop) (D3 : (Value × Int × Bool × Unit) → World → Prop) (w : World) : Prop :=
  (QAll Try.prog (Builtin.len_ #[24] 3 #[left3]) (.int .i64) fun (x48_21 : Int) => (((decide (i7 < x48_21)) = true → (Fc Try.prog 74 #[left3] w (.one .any) fun (x53_23 : Value) w_22 => (QAll Try.prog (Instr.indexAt 24 x53_23 (.int .i64 i7)) .any fun (x56_24 : Value) => (QSub Try.prog (Instr.loadAt 2 x56_24) w_22 (.int .i64) fun (x57_25 : Int) => (QAll Try.prog (Instr.indexAt 24 x53_23 (.int .i64 i7)) .any fun (x59_26 : Value) => (PrU Try.prog (Instr.storeAt 2 x59_26 (.int .i64 (IntKind.i64.wrap (x57_25 - (1 : Int))))) w_22 fun w_27 => (Fc Try.prog 77 #[x53_23] w_27 (.one (.int .i64)) fun (x61_30 : Int) w_29 => (QAll Try.prog (Builtin.min_ #[2, 2] 2 #[(.int .i64 (IntKind.i64.wrap (sum5 + x61_30))), (.int .i64 (1000000001 : Int))]) (.int .i64) fun (x65_31 : Int) => ((even6 = true → ((2 : Int) ≠ 0 ∧ N (left3 : Value) (x65_31, ((Int.tmod x61_30 (2 : Int)) == (0 : Int)), (IntKind.i64.wrap (i7 + (1 : Int)))) w_29)) ∧ (even6 = false → N (left3 : Value) (x65_31, false, (IntKind.i64.wrap (i7 + (1 : Int)))) w_29)))))))))) ∧ ((decide (i7 < x48_21)) = false → D3 ((left3 : Value), sum5, even6, ()) w)))

abbrev L_spec_l08Bound_16_e3 : List Slot := [.junk, .junk, .junk, .k .any, .junk, .k (.int .i64), .k .bool, .junk, .junk, .junk, .junk, .junk, .junk, .junk, .junk, .junk, .junk, .junk, .junk, .junk, .junk, .junk, .junk, .junk, .junk, .junk, .junk, .junk, .junk, .junk, .junk, .junk, .junk, .junk, .junk, .junk, .junk, .junk, .junk, .junk, .junk, .junk, .junk, .junk, .junk, .junk, .junk, .junk, .junk, .junk, .junk, .junk, .junk, .junk, .junk, .junk, .junk, .junk, .junk, .junk, .junk, .junk, .junk, .junk, .junk, .junk, .junk, .junk, .junk, .junk, .junk, .junk, .junk, .junk, .junk, .junk, .junk, .junk, .junk, .junk, .junk]

abbrev L_spec_l08Bound_16_sp : List Slot := [.junk, .junk, .junk, .k .any, .junk, .k (.int .i64), .k .bool, .k (.int .i64), .junk, .junk, .junk, .junk, .junk, .junk, .junk, .junk, .junk, .junk, .junk, .junk, .junk, .junk, .junk, .junk, .junk, .junk, .junk, .junk, .junk, .junk, .junk, .junk, .junk, .junk, .junk, .junk, .junk, .junk, .junk, .junk, .junk, .junk, .junk, .junk, .junk, .junk, .junk, .junk, .junk, .junk, .junk, .junk, .junk, .junk, .junk, .junk, .junk, .junk, .junk, .junk, .junk, .junk, .junk, .junk, .junk, .junk, .junk, .junk, .junk, .junk, .junk, .junk, .junk, .junk, .junk, .junk, .junk, .junk, .junk, .junk, .junk]
abbrev L_spec_l08Bound_16_ex : List (Nat × List Slot) := [(3, L_spec_l08Bound_16_e3)]
abbrev L_spec_l08Bound_16_rt : List Slot := [.junk, .junk, .junk, .junk, .junk, .junk, .junk, .junk, .junk, .junk, .junk, .junk, .junk, .junk, .junk, .junk, .junk, .junk, .junk, .junk, .junk, .junk, .junk, .junk, .junk, .junk, .junk, .junk, .junk, .junk, .junk, .junk, .junk, .junk, .junk, .junk, .junk, .junk, .junk, .junk, .junk, .junk, .junk, .junk, .junk, .junk, .junk, .junk, .junk, .junk, .junk, .junk, .junk, .junk, .junk, .junk, .junk, .junk, .junk, .junk, .junk, .junk, .junk, .junk, .junk, .junk, .junk, .junk, .junk, .junk, .junk, .junk, .junk, .junk, .junk, .junk, .junk, .junk, .junk, .junk, .junk]

def L_spec_l08Bound_16_b (Φ : Post) (u : Value) (N : Value → (Int × Bool × Int) → World → Prop) (s : (Int × Bool × Int)) (w : World) : Prop :=
  B_spec_l08Bound_16 u s.1 s.2.1 s.2.2 N (fun v w => ∀ j : Nat → Value, Φ (.exit 3) (mkT j 0 L_spec_l08Bound_16_e3 v) w) w

theorem L_spec_l08Bound_16_eq (j : Nat → Value) (u : Value) (s : (Int × Bool × Int)) (N : Value → (Int × Bool × Int) → World → Prop) (D3 : (Value × Int × Bool × Unit) → World → Prop) (R : (Unit) → World → Prop) (w : World) :
    W Try.prog ty O_spec_l08Bound_1 (loopAt Try.f77 16) (loopPost L_spec_l08Bound_16_sp [(3, (⟨L_spec_l08Bound_16_e3, D3⟩ : Door))] ⟨L_spec_l08Bound_16_rt, R⟩ (fun v w => N ((fun v => v.1) v) ((fun v => (v.2.1, v.2.2.1, v.2.2.2.1)) v) w)) (mkT j 0 L_spec_l08Bound_16_sp ((fun u s => (u, s.1, s.2.1, s.2.2, ())) u s)) w =
    B_spec_l08Bound_16 u s.1 s.2.1 s.2.2 N D3 w := by
  kernel_rfl

def O_spec_l08Bound_2 : Code → Post → List SV → World → Prop :=
  orc 16 (loopAt Try.f77 16) L_spec_l08Bound_16_sp (fun Φ fr w => LOOP (U := Value) (S := (Int × Bool × Int)) ((fun v => v.1) (extT L_spec_l08Bound_16_sp fr)) (L_spec_l08Bound_16_b Φ ((fun v => v.1) (extT L_spec_l08Bound_16_sp fr))) ((fun v => (v.2.1, v.2.2.1, v.2.2.2.1)) (extT L_spec_l08Bound_16_sp fr)) w) O_spec_l08Bound_1

theorem O_spec_l08Bound_2_ok : Sound Try.prog O_spec_l08Bound_2 :=
  orc_ok O_spec_l08Bound_1_ok fun Φ fr w hs h => loop_ok (ty := ty) follows O_spec_l08Bound_1_ok L_spec_l08Bound_16_sp (fun v => v.1) (fun v => (v.2.1, v.2.2.1, v.2.2.2.1)) (fun u s => (u, s.1, s.2.1, s.2.2, ())) (fun _ => rfl) L_spec_l08Bound_16_ex L_spec_l08Bound_16_rt (body := L_spec_l08Bound_16_b Φ) (fun j u s w N hb => by
    have e := L_spec_l08Bound_16_eq j u s N (doorOf Φ (.exit 3) L_spec_l08Bound_16_e3).D (doorOf Φ .ret L_spec_l08Bound_16_rt).D w
    exact Eq.mpr e hb) hs h

def V_spec_l08Bound (sizes0 : Value) (w : World) (K : Int → World → Prop) : Prop :=
  (Pr Try.prog (Instr.buildSlice 24 0 #[]) w (.one .any) fun (x10_2 : Value) w_1 => (At (loopAt Try.f77 3) (loopAt Try.f77 3) (LOOP (U := Value) (S := (Value × Int)) (sizes0 : Value) (fun N_42 s_43 w_44 => B_spec_l08Bound_3 (sizes0 : Value) s_43.1 s_43.2 N_42 (fun (v_14 : (Value × Unit)) w_15 => ∀ _j_16 : Nat → Value, (QAll Try.prog (Builtin.len_ #[24] 3 #[v_14.1]) (.int .i64) fun (x35_17 : Int) => (((x35_17 == (0 : Int)) = true → K (2 : Int) w_15) ∧ ((x35_17 == (0 : Int)) = false → (((x35_17 == (1 : Int)) = true → (QAll Try.prog (Instr.indexAt 24 v_14.1 (.int .i64 (0 : Int))) .any fun (x41_18 : Value) => (QSub Try.prog (Instr.loadAt 2 x41_18) w_15 (.int .i64) fun (x42_19 : Int) => K x42_19 w_15))) ∧ ((x35_17 == (1 : Int)) = false → (QAll Try.prog (Builtin.len_ #[24] 3 #[v_14.1]) (.int .i64) fun (x44_20 : Int) => (At (loopAt Try.f77 16) (loopAt Try.f77 16) (LOOP (U := Value) (S := (Int × Bool × Int)) (v_14.1 : Value) (fun N_36 s_37 w_38 => B_spec_l08Bound_16 (v_14.1 : Value) s_37.1 s_37.2.1 s_37.2.2 N_36 (fun (v_32 : (Value × Int × Bool × Unit)) w_33 => ∀ _j_34 : Nat → Value, (QAll Try.prog (Builtin.len_ #[24] 3 #[v_32.1]) (.int .i64) fun (x73_35 : Int) => (((x73_35 == (2 : Int)) = true → ((v_32.2.2.1 = true → K (IntKind.i64.wrap (v_32.2.1 - (1 : Int))) w_33) ∧ (v_32.2.2.1 = false → K v_32.2.1 w_33))) ∧ ((x73_35 == (2 : Int)) = false → K v_32.2.1 w_33)))) w_38) ((IntKind.i64.wrap ((2 : Int) - x44_20)), true, (0 : Int)) w_15))))))))) (fun (v_39 : (Int × Unit)) w_40 => ∀ _j_41 : Nat → Value, K v_39.1 w_40) w_44) ((x10_2 : Value), (0 : Int)) w_1)))

theorem eq_spec_l08Bound (sizes0 : Value) (w : World) (K : Int → World → Prop) :
    W Try.prog ty O_spec_l08Bound_2 (bodyOf Try.f77) (fnPost Try.prog Try.f77.results.toList (.one (.int .i64)) K) (frame0 [sizes0] 81) w = V_spec_l08Bound sizes0 w K := by
  kernel_rfl

theorem body_spec_l08Bound : Try.f77.body = some (bodyOf Try.f77) := by kernel_rfl
theorem name_spec_l08Bound : (Try.f77.name == "runtime.NumGoroutine") = false := by kernel_rfl

theorem walk_spec_l08Bound (sizes0 : Value) {w : World} {K : Int → World → Prop} (h : V_spec_l08Bound sizes0 w K) : Fc Try.prog 77 #[sizes0] w (.one (.int .i64)) K :=
  fn_ok follows O_spec_l08Bound_2_ok Try.func77 name_spec_l08Bound body_spec_l08Bound Try.ntmps77 [sizes0] (Eq.mpr (eq_spec_l08Bound sizes0 w K) h)

-- uses S9Nb
theorem bound_go : ∀ (n : Nat) {v : Value} {l : List Int} {w : World} {K : Int → World → Prop}, degL2 l ≤ n → SlI w v l → l.length ≤ 2 → (∀ x ∈ l, 1 ≤ x ∧ x ≤ 8) → (∀ w', Below w.heap.size w w' → K (nb l) w') →
    Fc Try.prog F_spec_l08Bound #[v] w (.one (.int .i64)) K := by
  intro n
  induction n using Nat.strongRecOn with
  | _ n ih =>
  intro v l w K hn h hl hb hK
  refine walk_spec_l08Bound _ (nilI fun b0 v0 w1 hb0 q1 o1 => ?_)
  have z1 := q1.size
  refine lp (fun s w' => ∃ (i b : Nat), s.2 = (i : Int) ∧ i ≤ l.length ∧ 1 ∉ l.take i ∧ w.heap.size ≤ b ∧ OwnI w' b s.1 (bigL (l.take i)) ∧ Below w.heap.size w w') (fun s _ => ((l.length : Int) - s.2).toNat) ⟨0, b0, rfl, Nat.zero_le _, by simp, by omega, o1, q1⟩ ?_
  rintro ⟨u, i_⟩ w2 N ⟨i, b, ei, hi, h1, hbb, o2, q2⟩ hN
  simp only at ei o2
  subst ei
  unfold B_spec_l08Bound_3
  dsimp only
  have h2 := h.keep q2
  have z2 := q2.size
  have hbl : (bigL (l.take i)).length ≤ 2 := Nat.le_trans (List.length_filter_le _ _) (by simp; omega)
  refine lenI h2 ⟨fun hlt => ?_, fun hge _ => ?_⟩
  · have hlt : (i : Int) < l.length := dec_t hlt
    have hil : i < l.length := by omega
    have hx := hb l[i] (List.getElem_mem hil)
    have hg : l.getD ((i : Nat) : Int).toNat 0 = l[i] := by rw [Int.toNat_natCast, List.getD_eq_getElem?_getD, List.getElem?_eq_getElem hil]; rfl
    have htk : l.take (i + 1) = l.take i ++ [l[i]] := by rw [List.take_add_one, List.getElem?_eq_getElem hil]; rfl
    refine atI h2 (by omega) hlt ?_
    rw [hg]
    refine ⟨fun e _ => ?_, fun e => atI h2 (by omega) hlt ?_⟩
    · have e := eq_t e
      have : nb l = 1 := nb_one (by rw [← e]; exact List.getElem_mem hil)
      rw [← this]; exact hK w2 q2
    have e := eq_f e
    rw [hg]
    have h1' : 1 ∉ l.take (i + 1) := by
      rw [htk]
      simp only [List.mem_append, List.mem_cons, List.not_mem_nil, or_false, not_or]
      exact ⟨h1, fun h => e h.symm⟩
    refine ⟨fun h3 => atI h2 (by omega) hlt ?_, fun h3 => ?_⟩
    · have h3 : 2 < l[i] := dec_t h3
      rw [hg]
      refine appI o2 (by omega) fun v' w3 b3 o3 m3 hb3 => ?_
      rw [wrap_small (by omega) (by omega)]
      refine hN _ _ ⟨i + 1, b3, by simp, by omega, h1', by omega, ?_, q2.trans (m3.below z2 (by simp; omega))⟩ (by simp only; omega)
      rw [htk, big_snoc, if_pos h3]; exact o3
    · have h3 : ¬ 2 < l[i] := dec_f h3
      rw [wrap_small (by omega) (by omega)]
      refine hN _ _ ⟨i + 1, b, by simp, by omega, h1', hbb, ?_, q2⟩ (by simp only; omega)
      rw [htk, big_snoc, if_neg h3, List.append_nil]; exact o2
  · have hge : ¬ (i : Int) < l.length := dec_f hge
    rw [List.take_of_length_le (by omega)] at h1 o2 hbl
    have sl := own_slI o2 (by omega)
    have hall := big_all l
    have hbb' : ∀ x ∈ bigL l, 1 ≤ x ∧ x ≤ 8 := fun x hx => hb x (List.mem_filter.1 hx).1
    refine lenI sl ⟨fun e => ?_, fun e0 => ⟨fun e => ?_, fun e1 => lenI sl ?_⟩⟩
    · have e := eq_t e
      rw [← nb_none h1 (by omega)]; exact hK w2 q2
    · have e := eq_t e
      refine atI sl (by omega) (by omega) ?_
      have : nb l = (bigL l).getD (0 : Int).toNat 0 := by
        rw [nb_single h1 (by omega)]
        match hh : bigL l, e with
        | [x], _ => rfl
      rw [← this]; exact hK w2 q2
    have e0 := eq_f e0; have e1 := eq_f e1
    have h22 : (bigL l).length = 2 := by omega
    have hds := decs_all hall
    have hds2 : ((decs (bigL l)).map nb).sum = ((decs l).map nb).sum := (sum_big (fun a b ha hb hp => nb_inv ha hb hp) h1).symm
    have hds3 : ((decs (bigL l)).map fun d => nb d % 2).sum = ((decs l).map fun d => nb d % 2).sum := (sum_big (F := fun d => nb d % 2) (fun a b ha hb hp => by show nb a % 2 = nb b % 2; rw [nb_inv ha hb hp]) h1).symm
    rw [wrap_small (by omega) (by omega)]
    have hdl : ∀ d ∈ decs (bigL l), 1 ≤ nb d ∧ nb d ≤ 32768 := fun d hd => ⟨nb_ge d, nb_two (by rw [(decs_deg hd).2]; omega) fun x hx => (decs_bd (lo := 1) (hi := 8) (by omega) hbb' hd x hx).2⟩
    refine lp (fun s w' => ∃ i : Nat, s.2.2 = (i : Int) ∧ i ≤ (bigL l).length ∧ s.1 = 2 - (bigL l).length + (((decs (bigL l)).take i).map nb).sum ∧ s.2.1 = decide ((((decs (bigL l)).take i).map fun d => nb d % 2).sum = 0) ∧ Below w2.heap.size w2 w') (fun s _ => (((bigL l).length : Int) - s.2.2).toNat) ⟨0, rfl, Nat.zero_le _, by simp, by simp, Below.refl _ _⟩ ?_
    rintro ⟨sum, even, j_⟩ w3 N2 ⟨j, ej, hj, es, ee, q3⟩ hN2
    simp only at ej es ee
    subst ej
    unfold B_spec_l08Bound_16
    dsimp only
    have sl3 := sl.keep q3
    have z3 := q3.size
    have hsumb : (((decs (bigL l)).take j).map nb).sum ≤ ((decs (bigL l)).take j).length * 32768 := sum_le' fun d hd => (hdl d (List.mem_of_mem_take hd)).2
    have hsum0 : ((decs (bigL l)).take j).length * 1 ≤ (((decs (bigL l)).take j).map nb).sum := le_sum' fun d hd => (hdl d (List.mem_of_mem_take hd)).1
    have hmod0 : ((decs (bigL l)).take j).length * 0 ≤ (((decs (bigL l)).take j).map fun d => nb d % 2).sum := le_sum' fun d hd => Int.emod_nonneg _ (by omega)
    have htl : ((decs (bigL l)).take j).length ≤ 2 := by rw [List.length_take, decs_len, big_idem]; omega
    refine lenI sl3 ⟨fun hlt => ?_, fun hge2 _ => lenI sl3 ⟨fun e2 => ?_, fun e2 => absurd h22 (by have := eq_f e2; omega)⟩⟩
    · have hlt : (j : Int) < (bigL l).length := dec_t hlt
      have hjl : j < (bigL l).length := by omega
      have hdj : (decs (bigL l))[j]? = some (lessAt (bigL l) j) := by rw [hds, List.getElem?_map, List.getElem?_range hjl]; rfl
      have hdm : lessAt (bigL l) j ∈ decs (bigL l) := List.mem_of_getElem? hdj
      have hdd := hdl _ hdm
      have hgx : (bigL l).getD ((j : Nat) : Int).toNat 0 = (bigL l)[j] := by rw [Int.toNat_natCast, List.getD_eq_getElem?_getD, List.getElem?_eq_getElem hjl]; rfl
      have hxb := hbb' _ (List.getElem_mem hjl)
      refine c_spec_l01Own sl3 (by omega) fun w4 x b4 hb4 q4 o4 => atI (own_slI o4 (by omega)) (by omega) hlt ?_
      rw [hgx, wrap_small (by omega) (by omega)]
      refine putI o4 (by omega) hlt fun w5 m5 s5 o5 => ?_
      have z4 := q4.size
      have q5 := q4.trans (m5.below (by omega) (by simp; omega))
      have hset : (bigL l).set ((j : Nat) : Int).toNat ((bigL l)[j] - 1) = lessAt (bigL l) j := by
        unfold lessAt
        rw [Int.toNat_natCast, List.getD_eq_getElem?_getD, List.getElem?_eq_getElem hjl]; rfl
      rw [hset] at o5
      have hdeg := (decs_deg hdm).1
      rw [big_deg] at hdeg
      refine ih (degL2 l - 1) (by omega) (by omega) (own_slI o5 (by rw [less_len]; omega)) (by rw [less_len]; omega) (decs_bd (lo := 1) (hi := 8) (by omega) hbb' hdm) fun w6 q6 => ?_
      have q36 := q3.trans ((q5.trans (q6.mono q5.size)).mono z3)
      rw [wrap_small (n := sum + nb (lessAt (bigL l) j)) (by omega) (by omega), wrap_small (n := (j : Int) + 1) (by omega) (by omega)]
      refine mn ?_
      rw [if_neg (by omega)]
      have htk : (decs (bigL l)).take (j + 1) = (decs (bigL l)).take j ++ [lessAt (bigL l) j] := by rw [List.take_add_one, hdj]; rfl
      have hmm : Int.tmod (nb (lessAt (bigL l) j)) 2 = nb (lessAt (bigL l) j) % 2 := Int.tmod_eq_emod_of_nonneg (by omega)
      have hm0 := Int.emod_nonneg (nb (lessAt (bigL l) j)) (b := 2) (by omega)
      rw [hmm]
      refine ⟨fun ev => ⟨by omega, hN2 _ _ ⟨j + 1, by simp, by omega, ?_, ?_, q36⟩ (by simp only; omega)⟩, fun ev => hN2 _ _ ⟨j + 1, by simp, by omega, ?_, ?_, q36⟩ (by simp only; omega)⟩
      · simp only; rw [htk, List.map_append, List.sum_append, es]; simp; omega
      · rw [ee] at ev
        have ev := dec_t ev
        simp only
        rw [htk, List.map_append, List.sum_append, ev]
        simp only [List.map_cons, List.map_nil, List.sum_cons, List.sum_nil, Int.zero_add, Int.add_zero]
        by_cases hz : nb (lessAt (bigL l) j) % 2 = 0 <;> simp [hz]
      · simp only; rw [htk, List.map_append, List.sum_append, es]; simp; omega
      · rw [ee] at ev
        have ev := dec_f ev
        simp only
        symm
        apply decide_eq_false
        rw [htk, List.map_append, List.sum_append]
        simp only [List.map_cons, List.map_nil, List.sum_cons, List.sum_nil, Int.add_zero]
        omega
    · have hge2 : ¬ (j : Int) < (bigL l).length := dec_f hge2
      rw [List.take_of_length_le (by rw [decs_len, big_idem]; omega)] at es ee hsumb hsum0
      have htl2 : (decs (bigL l)).length = 2 := by rw [decs_len, big_idem]; omega
      have hq := q2.trans (q3.mono z2)
      have hnb := nb_sum h1 (by omega)
      rw [← hds2, ← hds3] at hnb
      refine ⟨fun ev => ?_, fun ev => ?_⟩
      · rw [ee] at ev
        have ev := dec_t ev
        rw [if_pos ⟨h22, ev⟩] at hnb
        rw [wrap_small (by omega) (by omega)]
        have : sum - 1 = nb l := by rw [hnb, es]; omega
        rw [this]; exact hK w3 hq
      · rw [ee] at ev
        have ev := dec_f ev
        rw [if_neg (fun h => ev h.2)] at hnb
        have : sum = nb l := by rw [hnb, es]; omega
        rw [this]; exact hK w3 hq
theorem c_spec_l08Bound {v : Value} {l : List Int} {w : World} {K : Int → World → Prop} (h : SlI w v l) (hl : l.length ≤ 2) (hb : ∀ x ∈ l, 1 ≤ x ∧ x ≤ 8) (hK : ∀ w', Below w.heap.size w w' → K (nb l) w') :
    Fc Try.prog F_spec_l08Bound #[v] w (.one (.int .i64)) K := bound_go _ (Nat.le_refl _) h hl hb hK

end Go.Proofs.Ytlbhpbaeokgmaaa

/- The reading of spec_l08Step, and its contract. No condition. -/
namespace Go.Proofs.Ytlbhpbaeokgmaaa
open Go Go.RowKit Eng Mem
set_option linter.unusedVariables false
set_option maxRecDepth 100000
def B_spec_l08Step_3 (table0 : Value) (sizes1 : Value) (left5 : Value) (code6 : Int) (i7 : Int) (N : (Value × Value) → (Value × Int × Int) → World → Prop) (D0 : (Value × Value × Value × Int × Unit) → World → Prop) (R : (Int × Unit) → World → Prop) (w : World) : Prop :=
  (QAll Try.prog (Builtin.len_ #[24] 3 #[sizes1]) (.int .i64) fun (x14_3 : Int) => (((decide (i7 < x14_3)) = true → (QAll Try.prog (Instr.indexAt 24 sizes1 (.int .i64 i7)) .any fun (x22_4 : Value) => (QSub Try.prog (Instr.loadAt 2 x22_4) w (.int .i64) fun (x23_5 : Int) => (QAll Try.prog (Instr.indexAt 24 sizes1 (.int .i64 i7)) .any fun (x27_6 : Value) => (QSub Try.prog (Instr.loadAt 2 x27_6) w (.int .i64) fun (x28_7 : Int) => (((x28_7 == (1 : Int)) = true → R ((1 : Int), ()) w) ∧ ((x28_7 == (1 : Int)) = false → (QAll Try.prog (Instr.indexAt 24 sizes1 (.int .i64 i7)) .any fun (x32_8 : Value) => (QSub Try.prog (Instr.loadAt 2 x32_8) w (.int .i64) fun (x33_9 : Int) => (((decide (x33_9 > (2 : Int))) = true → (QAll Try.prog (Instr.indexAt 24 sizes1 (.int .i64 i7)) .any fun (x38_10 : Value) => (QSub Try.prog (Instr.loadAt 2 x38_10) w (.int .i64) fun (x39_11 : Int) => (Pr Try.prog (Instr.buildSlice 24 1 #[(0, (.int .i64 x39_11))]) w (.one .any) fun (x40_13 : Value) w_12 => (Pr Try.prog (Builtin.append_ #[24, 24] 24 #[left5, x40_13]) w_12 (.one .any) fun (x41_15 : Value) w_14 => N ((table0 : Value), (sizes1 : Value)) ((x41_15 : Value), (IntKind.i64.wrap ((IntKind.i64.wrap (code6 * (9 : Int))) + x23_5)), (IntKind.i64.wrap (i7 + (1 : Int)))) w_14))))) ∧ ((decide (x33_9 > (2 : Int))) = false → N ((table0 : Value), (sizes1 : Value)) ((left5 : Value), (IntKind.i64.wrap ((IntKind.i64.wrap (code6 * (9 : Int))) + x23_5)), (IntKind.i64.wrap (i7 + (1 : Int)))) w))))))))))) ∧ ((decide (i7 < x14_3)) = false → D0 ((table0 : Value), (sizes1 : Value), (left5 : Value), code6, ()) w)))

abbrev L_spec_l08Step_3_e0 : List Slot := [.k .any, .k .any, .junk, .junk, .junk, .k .any, .k (.int .i64), .junk, .junk, .junk, .junk, .junk, .junk, .junk, .junk, .junk, .junk, .junk, .junk, .junk, .junk, .junk, .junk, .junk, .junk, .junk, .junk, .junk, .junk, .junk, .junk, .junk, .junk, .junk, .junk, .junk, .junk, .junk, .junk, .junk, .junk, .junk, .junk, .junk, .junk, .junk, .junk, .junk, .junk, .junk, .junk, .junk, .junk, .junk, .junk, .junk, .junk, .junk, .junk, .junk, .junk, .junk, .junk, .junk, .junk, .junk, .junk, .junk, .junk, .junk, .junk, .junk, .junk, .junk]

abbrev L_spec_l08Step_3_sp : List Slot := [.k .any, .k .any, .junk, .junk, .junk, .k .any, .k (.int .i64), .k (.int .i64), .junk, .junk, .junk, .junk, .junk, .junk, .junk, .junk, .junk, .junk, .junk, .junk, .junk, .junk, .junk, .junk, .junk, .junk, .junk, .junk, .junk, .junk, .junk, .junk, .junk, .junk, .junk, .junk, .junk, .junk, .junk, .junk, .junk, .junk, .junk, .junk, .junk, .junk, .junk, .junk, .junk, .junk, .junk, .junk, .junk, .junk, .junk, .junk, .junk, .junk, .junk, .junk, .junk, .junk, .junk, .junk, .junk, .junk, .junk, .junk, .junk, .junk, .junk, .junk, .junk, .junk]
abbrev L_spec_l08Step_3_ex : List (Nat × List Slot) := [(0, L_spec_l08Step_3_e0)]
abbrev L_spec_l08Step_3_rt : List Slot := [.junk, .junk, .junk, .junk, .k (.int .i64), .junk, .junk, .junk, .junk, .junk, .junk, .junk, .junk, .junk, .junk, .junk, .junk, .junk, .junk, .junk, .junk, .junk, .junk, .junk, .junk, .junk, .junk, .junk, .junk, .junk, .junk, .junk, .junk, .junk, .junk, .junk, .junk, .junk, .junk, .junk, .junk, .junk, .junk, .junk, .junk, .junk, .junk, .junk, .junk, .junk, .junk, .junk, .junk, .junk, .junk, .junk, .junk, .junk, .junk, .junk, .junk, .junk, .junk, .junk, .junk, .junk, .junk, .junk, .junk, .junk, .junk, .junk, .junk, .junk]

def L_spec_l08Step_3_b (Φ : Post) (u : (Value × Value)) (N : (Value × Value) → (Value × Int × Int) → World → Prop) (s : (Value × Int × Int)) (w : World) : Prop :=
  B_spec_l08Step_3 u.1 u.2 s.1 s.2.1 s.2.2 N (fun v w => ∀ j : Nat → Value, Φ (.exit 0) (mkT j 0 L_spec_l08Step_3_e0 v) w) (fun v w => ∀ j : Nat → Value, Φ .ret (mkT j 0 L_spec_l08Step_3_rt v) w) w

theorem L_spec_l08Step_3_eq (j : Nat → Value) (u : (Value × Value)) (s : (Value × Int × Int)) (N : (Value × Value) → (Value × Int × Int) → World → Prop) (D0 : (Value × Value × Value × Int × Unit) → World → Prop) (R : (Int × Unit) → World → Prop) (w : World) :
    W Try.prog ty (fun _ _ _ _ => False) (loopAt Try.f78 3) (loopPost L_spec_l08Step_3_sp [(0, (⟨L_spec_l08Step_3_e0, D0⟩ : Door))] ⟨L_spec_l08Step_3_rt, R⟩ (fun v w => N ((fun v => (v.1, v.2.1)) v) ((fun v => (v.2.2.1, v.2.2.2.1, v.2.2.2.2.1)) v) w)) (mkT j 0 L_spec_l08Step_3_sp ((fun u s => (u.1, u.2, s.1, s.2.1, s.2.2, ())) u s)) w =
    B_spec_l08Step_3 u.1 u.2 s.1 s.2.1 s.2.2 N D0 R w := by
  kernel_rfl

def O_spec_l08Step_1 : Code → Post → List SV → World → Prop :=
  orc 3 (loopAt Try.f78 3) L_spec_l08Step_3_sp (fun Φ fr w => LOOP (U := (Value × Value)) (S := (Value × Int × Int)) ((fun v => (v.1, v.2.1)) (extT L_spec_l08Step_3_sp fr)) (L_spec_l08Step_3_b Φ ((fun v => (v.1, v.2.1)) (extT L_spec_l08Step_3_sp fr))) ((fun v => (v.2.2.1, v.2.2.2.1, v.2.2.2.2.1)) (extT L_spec_l08Step_3_sp fr)) w) (fun _ _ _ _ => False)

theorem O_spec_l08Step_1_ok : Sound Try.prog O_spec_l08Step_1 :=
  orc_ok (sound_none _) fun Φ fr w hs h => loop_ok (ty := ty) follows (sound_none _) L_spec_l08Step_3_sp (fun v => (v.1, v.2.1)) (fun v => (v.2.2.1, v.2.2.2.1, v.2.2.2.2.1)) (fun u s => (u.1, u.2, s.1, s.2.1, s.2.2, ())) (fun _ => rfl) L_spec_l08Step_3_ex L_spec_l08Step_3_rt (body := L_spec_l08Step_3_b Φ) (fun j u s w N hb => by
    have e := L_spec_l08Step_3_eq j u s N (doorOf Φ (.exit 0) L_spec_l08Step_3_e0).D (doorOf Φ .ret L_spec_l08Step_3_rt).D w
    exact Eq.mpr e hb) hs h

def B_spec_l08Step_14 (table0 : Value) (sizes1 : Value) (code6 : Int) (sum8 : Int) (weight9 : Int) (i10 : Int) (N : (Value × Value × Int) → (Int × Int × Int) → World → Prop) (D2 : (Int × Unit) → World → Prop) (w : World) : Prop :=
  (((decide (i10 ≥ (0 : Int))) = true → (QAll Try.prog (Instr.indexAt 24 sizes1 (.int .i64 i10)) .any fun (x59_24 : Value) => (QSub Try.prog (Instr.loadAt 2 x59_24) w (.int .i64) fun (x60_25 : Int) => (((decide (x60_25 > (2 : Int))) = true → (QAll Try.prog (Instr.indexAt 24 table0 (.int .i64 (IntKind.i64.wrap (code6 - weight9)))) .any fun (x67_26 : Value) => (QSub Try.prog (Instr.loadAt 2 x67_26) w (.int .i64) fun (x68_27 : Int) => (QAll Try.prog (Builtin.min_ #[2, 2] 2 #[(.int .i64 (IntKind.i64.wrap (sum8 + x68_27))), (.int .i64 (1000000001 : Int))]) (.int .i64) fun (x70_28 : Int) => N ((table0 : Value), (sizes1 : Value), code6) (x70_28, (IntKind.i64.wrap (weight9 * (9 : Int))), (IntKind.i64.wrap (i10 - (1 : Int)))) w)))) ∧ ((decide (x60_25 > (2 : Int))) = false → N ((table0 : Value), (sizes1 : Value), code6) (sum8, (IntKind.i64.wrap (weight9 * (9 : Int))), (IntKind.i64.wrap (i10 - (1 : Int)))) w))))) ∧ ((decide (i10 ≥ (0 : Int))) = false → D2 (sum8, ()) w))

abbrev L_spec_l08Step_14_e2 : List Slot := [.junk, .junk, .junk, .junk, .junk, .junk, .junk, .junk, .k (.int .i64), .junk, .junk, .junk, .junk, .junk, .junk, .junk, .junk, .junk, .junk, .junk, .junk, .junk, .junk, .junk, .junk, .junk, .junk, .junk, .junk, .junk, .junk, .junk, .junk, .junk, .junk, .junk, .junk, .junk, .junk, .junk, .junk, .junk, .junk, .junk, .junk, .junk, .junk, .junk, .junk, .junk, .junk, .junk, .junk, .junk, .junk, .junk, .junk, .junk, .junk, .junk, .junk, .junk, .junk, .junk, .junk, .junk, .junk, .junk, .junk, .junk, .junk, .junk, .junk, .junk]

abbrev L_spec_l08Step_14_sp : List Slot := [.k .any, .k .any, .junk, .junk, .junk, .junk, .k (.int .i64), .junk, .k (.int .i64), .k (.int .i64), .k (.int .i64), .junk, .junk, .junk, .junk, .junk, .junk, .junk, .junk, .junk, .junk, .junk, .junk, .junk, .junk, .junk, .junk, .junk, .junk, .junk, .junk, .junk, .junk, .junk, .junk, .junk, .junk, .junk, .junk, .junk, .junk, .junk, .junk, .junk, .junk, .junk, .junk, .junk, .junk, .junk, .junk, .junk, .junk, .junk, .junk, .junk, .junk, .junk, .junk, .junk, .junk, .junk, .junk, .junk, .junk, .junk, .junk, .junk, .junk, .junk, .junk, .junk, .junk, .junk]
abbrev L_spec_l08Step_14_ex : List (Nat × List Slot) := [(2, L_spec_l08Step_14_e2)]
abbrev L_spec_l08Step_14_rt : List Slot := [.junk, .junk, .junk, .junk, .junk, .junk, .junk, .junk, .junk, .junk, .junk, .junk, .junk, .junk, .junk, .junk, .junk, .junk, .junk, .junk, .junk, .junk, .junk, .junk, .junk, .junk, .junk, .junk, .junk, .junk, .junk, .junk, .junk, .junk, .junk, .junk, .junk, .junk, .junk, .junk, .junk, .junk, .junk, .junk, .junk, .junk, .junk, .junk, .junk, .junk, .junk, .junk, .junk, .junk, .junk, .junk, .junk, .junk, .junk, .junk, .junk, .junk, .junk, .junk, .junk, .junk, .junk, .junk, .junk, .junk, .junk, .junk, .junk, .junk]

def L_spec_l08Step_14_b (Φ : Post) (u : (Value × Value × Int)) (N : (Value × Value × Int) → (Int × Int × Int) → World → Prop) (s : (Int × Int × Int)) (w : World) : Prop :=
  B_spec_l08Step_14 u.1 u.2.1 u.2.2 s.1 s.2.1 s.2.2 N (fun v w => ∀ j : Nat → Value, Φ (.exit 2) (mkT j 0 L_spec_l08Step_14_e2 v) w) w

theorem L_spec_l08Step_14_eq (j : Nat → Value) (u : (Value × Value × Int)) (s : (Int × Int × Int)) (N : (Value × Value × Int) → (Int × Int × Int) → World → Prop) (D2 : (Int × Unit) → World → Prop) (R : (Unit) → World → Prop) (w : World) :
    W Try.prog ty O_spec_l08Step_1 (loopAt Try.f78 14) (loopPost L_spec_l08Step_14_sp [(2, (⟨L_spec_l08Step_14_e2, D2⟩ : Door))] ⟨L_spec_l08Step_14_rt, R⟩ (fun v w => N ((fun v => (v.1, v.2.1, v.2.2.1)) v) ((fun v => (v.2.2.2.1, v.2.2.2.2.1, v.2.2.2.2.2.1)) v) w)) (mkT j 0 L_spec_l08Step_14_sp ((fun u s => (u.1, u.2.1, u.2.2, s.1, s.2.1, s.2.2, ())) u s)) w =
    B_spec_l08Step_14 u.1 u.2.1 u.2.2 s.1 s.2.1 s.2.2 N D2 w := by
  kernel_rfl

def O_spec_l08Step_2 : Code → Post → List SV → World → Prop :=
  orc 14 (loopAt Try.f78 14) L_spec_l08Step_14_sp (fun Φ fr w => LOOP (U := (Value × Value × Int)) (S := (Int × Int × Int)) ((fun v => (v.1, v.2.1, v.2.2.1)) (extT L_spec_l08Step_14_sp fr)) (L_spec_l08Step_14_b Φ ((fun v => (v.1, v.2.1, v.2.2.1)) (extT L_spec_l08Step_14_sp fr))) ((fun v => (v.2.2.2.1, v.2.2.2.2.1, v.2.2.2.2.2.1)) (extT L_spec_l08Step_14_sp fr)) w) O_spec_l08Step_1

theorem O_spec_l08Step_2_ok : Sound Try.prog O_spec_l08Step_2 :=
  orc_ok O_spec_l08Step_1_ok fun Φ fr w hs h => loop_ok (ty := ty) follows O_spec_l08Step_1_ok L_spec_l08Step_14_sp (fun v => (v.1, v.2.1, v.2.2.1)) (fun v => (v.2.2.2.1, v.2.2.2.2.1, v.2.2.2.2.2.1)) (fun u s => (u.1, u.2.1, u.2.2, s.1, s.2.1, s.2.2, ())) (fun _ => rfl) L_spec_l08Step_14_ex L_spec_l08Step_14_rt (body := L_spec_l08Step_14_b Φ) (fun j u s w N hb => by
    have e := L_spec_l08Step_14_eq j u s N (doorOf Φ (.exit 2) L_spec_l08Step_14_e2).D (doorOf Φ .ret L_spec_l08Step_14_rt).D w
    exact Eq.mpr e hb) hs h

def V_spec_l08Step (table0 : Value) (sizes1 : Value) (w : World) (K : Int → World → Prop) : Prop :=
  (Pr Try.prog (Instr.buildSlice 24 0 #[]) w (.one .any) fun (x11_2 : Value) w_1 => (At (loopAt Try.f78 3) (loopAt Try.f78 3) (LOOP (U := (Value × Value)) (S := (Value × Int × Int)) ((table0 : Value), (sizes1 : Value)) (fun N_38 s_39 w_40 => B_spec_l08Step_3 (table0 : Value) (sizes1 : Value) s_39.1 s_39.2.1 s_39.2.2 N_38 (fun (v_16 : (Value × Value × Value × Int × Unit)) w_17 => ∀ _j_18 : Nat → Value, (QAll Try.prog (Builtin.len_ #[24] 3 #[v_16.2.2.1]) (.int .i64) fun (x43_19 : Int) => (((decide (x43_19 < (3 : Int))) = true → (Fc Try.prog 77 #[v_16.2.2.1] w_17 (.one (.int .i64)) fun (x46_21 : Int) w_20 => K x46_21 w_20)) ∧ ((decide (x43_19 < (3 : Int))) = false → (QAll Try.prog (Builtin.len_ #[24] 3 #[v_16.2.2.1]) (.int .i64) fun (x48_22 : Int) => (QAll Try.prog (Builtin.len_ #[24] 3 #[v_16.2.1]) (.int .i64) fun (x51_23 : Int) => (At (loopAt Try.f78 14) (loopAt Try.f78 14) (LOOP (U := (Value × Value × Int)) (S := (Int × Int × Int)) ((v_16.1 : Value), (v_16.2.1 : Value), v_16.2.2.2.1) (fun N_32 s_33 w_34 => B_spec_l08Step_14 (v_16.1 : Value) (v_16.2.1 : Value) v_16.2.2.2.1 s_33.1 s_33.2.1 s_33.2.2 N_32 (fun (v_29 : (Int × Unit)) w_30 => ∀ _j_31 : Nat → Value, K v_29.1 w_30) w_34) ((IntKind.i64.wrap ((2 : Int) - x48_22)), (1 : Int), (IntKind.i64.wrap (x51_23 - (1 : Int)))) w_17)))))))) (fun (v_35 : (Int × Unit)) w_36 => ∀ _j_37 : Nat → Value, K v_35.1 w_36) w_40) ((x11_2 : Value), (0 : Int), (0 : Int)) w_1)))

theorem eq_spec_l08Step (table0 : Value) (sizes1 : Value) (w : World) (K : Int → World → Prop) :
    W Try.prog ty O_spec_l08Step_2 (bodyOf Try.f78) (fnPost Try.prog Try.f78.results.toList (.one (.int .i64)) K) (frame0 [table0, sizes1] 74) w = V_spec_l08Step table0 sizes1 w K := by
  kernel_rfl

theorem body_spec_l08Step : Try.f78.body = some (bodyOf Try.f78) := by kernel_rfl
theorem name_spec_l08Step : (Try.f78.name == "runtime.NumGoroutine") = false := by kernel_rfl

theorem walk_spec_l08Step (table0 : Value) (sizes1 : Value) {w : World} {K : Int → World → Prop} (h : V_spec_l08Step table0 sizes1 w K) : Fc Try.prog 78 #[table0, sizes1] w (.one (.int .i64)) K :=
  fn_ok follows O_spec_l08Step_2_ok Try.func78 name_spec_l08Step body_spec_l08Step Try.ntmps78 [table0, sizes1] (Eq.mpr (eq_spec_l08Step table0 sizes1 w K) h)

-- uses S9Nb


/-- Places from k on, of numbers above two. -/
def fromK (l : List Int) (k : Nat) : List (List Int) := (((List.range l.length).drop k).filter fun i => decide (2 < l.getD i 0)).map (lessAt l)
theorem fromK_0 (l : List Int) : fromK l 0 = decs l := by rw [decs_sets]; rfl
theorem fromK_end (l : List Int) : fromK l l.length = [] := by unfold fromK; rw [List.drop_of_length_le (by simp)]; rfl
theorem fromK_step {l : List Int} {k : Nat} (h : k < l.length) : fromK l k = (if 2 < l.getD k 0 then [lessAt l k] else []) ++ fromK l (k + 1) := by
  unfold fromK
  rw [List.drop_eq_getElem_cons (by simpa using h), List.getElem_range, List.filter_cons]
  by_cases h2 : 2 < l.getD k 0
  · rw [if_pos h2, if_pos (by simpa using h2)]; rfl
  · rw [if_neg h2, if_neg (by simpa using h2)]; rfl
theorem c_spec_l08Step {tv ov : Value} {tab own : List Int} {w : World} {K : Int → World → Prop} (ht : SlI w tv tab) (htl : tab.length = 6561) (ho : SlI w ov own) (h3 : 3 ≤ own.length) (h4 : own.length ≤ 4) (hb : ∀ x ∈ own, 1 ≤ x ∧ x ≤ 8)
    (hT : ∀ i, i < own.length → 2 < own.getD i 0 → tab.getD (cdI (lessAt own i)).toNat 0 = min (nb (lessAt own i)) capN) (hK : ∀ w', Below w.heap.size w w' → K (min (nb own) capN) w') :
    Fc Try.prog F_spec_l08Step #[tv, ov] w (.one (.int .i64)) K := by
  have hdig : Dig own := fun x hx => by have := hb x hx; omega
  have p4 : (9 : Int) ^ own.length ≤ 6561 := by
    have : own.length = 3 ∨ own.length = 4 := by omega
    rcases this with h | h <;> rw [h] <;> decide
  have cdl : ∀ i, i ≤ own.length → 0 ≤ cdI (own.take i) ∧ cdI (own.take i) < 6561 := fun i hi => by
    have h := cd_bd i (own.take i) (by simp; omega) fun x hx => hdig x (List.mem_of_mem_take hx)
    have h9 : (9 : Int) ^ i ≤ (9 : Int) ^ own.length := by
      have := Nat.pow_le_pow_right (n := 9) (by omega) hi
      have e1 : ((9 ^ i : Nat) : Int) = (9 : Int) ^ i := Int.natCast_pow 9 i
      have e2 : ((9 ^ own.length : Nat) : Int) = (9 : Int) ^ own.length := Int.natCast_pow 9 own.length
      omega
    omega
  refine walk_spec_l08Step _ _ (nilI fun b0 v0 w1 hb0 q1 o1 => ?_)
  have z1 := q1.size
  refine lp (fun s w' => ∃ (i b : Nat), s.2.2 = (i : Int) ∧ s.2.1 = cdI (own.take i) ∧ i ≤ own.length ∧ 1 ∉ own.take i ∧ w.heap.size ≤ b ∧ OwnI w' b s.1 (bigL (own.take i)) ∧ Below w.heap.size w w') (fun s _ => ((own.length : Int) - s.2.2).toNat) ⟨0, b0, rfl, rfl, Nat.zero_le _, by simp, by omega, o1, q1⟩ ?_
  rintro ⟨u, c_, i_⟩ w2 N ⟨i, b, ei, ec, hi, h1, hbb, o2, q2⟩ hN
  simp only at ei ec o2
  subst ei; subst ec
  unfold B_spec_l08Step_3
  dsimp only
  have h2 := ho.keep q2
  have z2 := q2.size
  have hbl : (bigL (own.take i)).length ≤ 4 := Nat.le_trans (List.length_filter_le _ _) (by simp; omega)
  refine lenI h2 ⟨fun hlt => ?_, fun hge _ => ?_⟩
  · have hlt : (i : Int) < own.length := dec_t hlt
    have hil : i < own.length := by omega
    have hx := hb own[i] (List.getElem_mem hil)
    have hg : own.getD ((i : Nat) : Int).toNat 0 = own[i] := by rw [Int.toNat_natCast, List.getD_eq_getElem?_getD, List.getElem?_eq_getElem hil]; rfl
    have htk : own.take (i + 1) = own.take i ++ [own[i]] := by rw [List.take_add_one, List.getElem?_eq_getElem hil]; rfl
    have hcd := cdl i hi
    have hcn : cdI (own.take i) * 9 + own[i] = cdI (own.take (i + 1)) := by rw [htk, cd_snoc]
    have hcd1 := cdl (i + 1) (by omega)
    refine atI h2 (by omega) hlt (atI h2 (by omega) hlt ?_)
    rw [hg]
    refine ⟨fun e _ => ?_, fun e => atI h2 (by omega) hlt ?_⟩
    · have e := eq_t e
      have : min (nb own) capN = 1 := by rw [nb_one (by rw [← e]; exact List.getElem_mem hil)]; decide
      rw [← this]; exact hK w2 q2
    have e := eq_f e
    rw [hg]
    have h1' : 1 ∉ own.take (i + 1) := by
      rw [htk]
      simp only [List.mem_append, List.mem_cons, List.not_mem_nil, or_false, not_or]
      exact ⟨h1, fun h => e h.symm⟩
    rw [wrap_small (n := cdI (own.take i) * 9) (by omega) (by omega), wrap_small (n := cdI (own.take i) * 9 + own[i]) (by omega) (by omega), wrap_small (n := (i : Int) + 1) (by omega) (by omega)]
    refine ⟨fun h3 => atI h2 (by omega) hlt ?_, fun h3 => ?_⟩
    · have h3 : 2 < own[i] := dec_t h3
      rw [hg]
      refine appI o2 (by omega) fun v' w3 b3 o3 m3 hb3 => ?_
      refine hN _ _ ⟨i + 1, b3, by simp, hcn, by omega, h1', by omega, ?_, q2.trans (m3.below z2 (by simp; omega))⟩ (by simp only; omega)
      rw [htk, big_snoc, if_pos h3]; exact o3
    · have h3 : ¬ 2 < own[i] := dec_f h3
      refine hN _ _ ⟨i + 1, b, by simp, hcn, by omega, h1', hbb, ?_, q2⟩ (by simp only; omega)
      rw [htk, big_snoc, if_neg h3, List.append_nil]; exact o2
  · have hge : ¬ (i : Int) < own.length := dec_f hge
    rw [List.take_of_length_le (l := own) (i := i) (by omega)] at h1 o2 hbl
    rw [List.take_of_length_le (l := own) (i := i) (by omega)]
    have sl := own_slI o2 (by omega)
    have hbb' : ∀ x ∈ bigL own, 1 ≤ x ∧ x ≤ 8 := fun x hx => hb x (List.mem_filter.1 hx).1
    refine lenI sl ⟨fun e => ?_, fun e => lenI sl (lenI h2 ?_)⟩
    · have e := dec_t e
      refine c_spec_l08Bound sl (by omega) hbb' fun w3 q3 => ?_
      have hle := nb_two (l := bigL own) (by omega) fun x hx => (hbb' x hx).2
      have : min (nb own) capN = nb (bigL own) := by rw [nb_big h1]; unfold capN; omega
      rw [← this]; exact hK w3 (q2.trans (q3.mono z2))
    have e := dec_f e
    have hcl : 3 ≤ (bigL own).length := by omega
    rw [wrap_small (n := 2 - ((bigL own).length : Int)) (by omega) (by omega), wrap_small (n := (own.length : Int) - 1) (by omega) (by omega)]
    refine lp (fun s w' => w' = w2 ∧ ∃ k : Nat, s.2.2 = (k : Int) - 1 ∧ k ≤ own.length ∧ s.2.1 = 9 ^ (own.length - k) ∧ s.1 = satF capN (2 - (bigL own).length) (((fromK own k).map fun d => min (nb d) capN).reverse)) (fun s _ => (s.2.2 + 1).toNat) ⟨rfl, own.length, rfl, Nat.le_refl _, by simp, by rw [fromK_end]; rfl⟩ ?_
    rintro ⟨sum, wt, j_⟩ w3 N2 ⟨ew, k, ej, hk, ewt, es⟩ hN2
    simp only at ej ewt es
    subst ew; subst ej
    unfold B_spec_l08Step_14
    dsimp only
    have ht2 := ht.keep q2
    have pos : ∀ n ∈ ((fromK own k).map fun d => min (nb d) capN).reverse, 0 ≤ n := fun n hn => by
      obtain ⟨d, _, rfl⟩ := List.mem_map.1 (List.mem_reverse.1 hn)
      have := nb_ge d
      unfold capN; omega
    have sb := sat_bd (C := capN) _ (2 - ((bigL own).length : Int)) (by unfold capN; omega) pos
    rw [← es] at sb
    have hwt : 1 ≤ wt ∧ wt ≤ 6561 := by
      rw [ewt]
      refine ⟨pow9 _, ?_⟩
      have := Nat.pow_le_pow_right (n := 9) (by omega) (show own.length - k ≤ own.length by omega)
      have e1 : ((9 ^ (own.length - k) : Nat) : Int) = (9 : Int) ^ (own.length - k) := Int.natCast_pow 9 _
      have e2 : ((9 ^ own.length : Nat) : Int) = (9 : Int) ^ own.length := Int.natCast_pow 9 own.length
      omega
    refine ⟨fun hge2 => ?_, fun hlt2 _ => ?_⟩
    · have hge2 : (k : Int) - 1 ≥ 0 := dec_t hge2
      obtain ⟨m, rfl⟩ : ∃ m, k = m + 1 := ⟨k - 1, by omega⟩
      have hml : m < own.length := by omega
      have hmi : (((m + 1 : Nat) : Int) - 1).toNat = m := by omega
      have hst := fromK_step hml
      have hw9 : wt * 9 = 9 ^ (own.length - m) := by rw [ewt, ← Int.pow_succ]; congr 1; omega
      refine atI h2 (by omega) (by omega) ?_
      rw [hmi, wrap_small (n := wt * 9) (by omega) (by omega), wrap_small (n := ((m + 1 : Nat) : Int) - 1 - 1) (by omega) (by omega)]
      refine ⟨fun hg => ?_, fun hg => ?_⟩
      · have hg : 2 < own.getD m 0 := dec_t hg
        have hcl2 := cd_less hml
        have hcb := cd_bd _ (lessAt own m) rfl fun x hx => by have := less_bd hml hb hg x hx; omega
        rw [less_len] at hcb
        have hcode : cdI own - wt = cdI (lessAt own m) := by rw [hcl2, ewt]; congr 2; omega
        have hcdo := cdl own.length (Nat.le_refl _)
        rw [List.take_length] at hcdo
        rw [wrap_small (n := cdI own - wt) (by omega) (by omega), hcode]
        refine atI ht2 (by omega) (by omega) ?_
        rw [hT m hml hg]
        have hn1 := nb_ge (lessAt own m)
        rw [wrap_small (by unfold capN at sb ⊢; omega) (by unfold capN at sb ⊢; omega)]
        refine mn ?_
        have hmin : (if (1000000001 : Int) < sum + min (nb (lessAt own m)) capN then (1000000001 : Int) else sum + min (nb (lessAt own m)) capN) = min (sum + min (nb (lessAt own m)) capN) capN := by unfold capN; split <;> omega
        rw [hmin]
        refine hN2 _ _ ⟨rfl, m, by simp only; omega, by omega, hw9, ?_⟩ (by simp only; omega)
        simp only
        rw [hst, if_pos hg, List.singleton_append, List.map_cons, List.reverse_cons, sat_append, ← es]
        rfl
      · have hg : ¬ 2 < own.getD m 0 := dec_f hg
        refine hN2 _ _ ⟨rfl, m, by simp only; omega, by omega, hw9, ?_⟩ (by simp only; omega)
        simp only
        rw [hst, if_neg hg, List.nil_append]; exact es
    · have hlt2 : ¬ (k : Int) - 1 ≥ 0 := dec_f hlt2
      have hk0 : k = 0 := by omega
      subst hk0
      rw [fromK_0] at es
      have hd : (decs own).length = (bigL own).length := decs_len own
      have hsat := sat_eq (C := capN) (by decide) ((decs own).map nb).reverse (2 - ((bigL own).length : Int)) (by unfold capN; omega) (.inr (by rw [List.length_reverse, List.length_map, hd]; omega)) (fun n hn => by
        obtain ⟨d, _, rfl⟩ := List.mem_map.1 (List.mem_reverse.1 hn); exact nb_ge d)
      rw [List.map_reverse, List.map_map, List.sum_reverse] at hsat
      have hnb := nb_sum h1 (by omega)
      rw [if_neg (by omega)] at hnb
      have : min (nb own) capN = sum := by
        rw [es]
        refine Eq.trans ?_ hsat.symm
        rw [hnb]
        congr 1
        omega
      rw [← this]; exact hK w3 q2

end Go.Proofs.Ytlbhpbaeokgmaaa

/- The reading of spec_l08Table, and its contract. No condition. -/
namespace Go.Proofs.Ytlbhpbaeokgmaaa
open Go Go.RowKit Eng Mem
set_option linter.unusedVariables false
set_option maxRecDepth 100000
def B_spec_l08Table_9 (sizes0 : Value) (table3 : Value) (own4 : Value) (code5 : Int) (rest6 : Int) (fits7 : Bool) (i8 : Int) (N : (Value × Value × Value × Int) → (Int × Bool × Int) → World → Prop) (D2 : (Value × Value × Value × Int × Int × Bool × Unit) → World → Prop) (w : World) : Prop :=
  (((decide (i8 ≥ (0 : Int))) = true → ((9 : Int) ≠ 0 ∧ (QAll Try.prog (Instr.indexAt 24 own4 (.int .i64 i8)) .any fun (x38_12 : Value) => (PrU Try.prog (Instr.storeAt 2 x38_12 (.int .i64 (Int.tmod rest6 (9 : Int)))) w fun w_13 => (∀ w_15, Drew w_13 w_15 → ((fits7 = true → (QAll Try.prog (Instr.indexAt 24 own4 (.int .i64 i8)) .any fun (x43_16 : Value) => (QSub Try.prog (Instr.loadAt 2 x43_16) w_15 (.int .i64) fun (x44_17 : Int) => (((decide (x44_17 ≥ (1 : Int))) = true → (QAll Try.prog (Instr.indexAt 24 own4 (.int .i64 i8)) .any fun (x50_18 : Value) => (QSub Try.prog (Instr.loadAt 2 x50_18) w_15 (.int .i64) fun (x51_19 : Int) => (QAll Try.prog (Instr.indexAt 24 sizes0 (.int .i64 i8)) .any fun (x54_20 : Value) => (QSub Try.prog (Instr.loadAt 2 x54_20) w_15 (.int .i64) fun (x55_21 : Int) => ((9 : Int) ≠ 0 ∧ N ((sizes0 : Value), (table3 : Value), (own4 : Value), code5) ((IntKind.i64.wrap (Int.tdiv rest6 (9 : Int))), (decide (x51_19 ≤ x55_21)), (IntKind.i64.wrap (i8 - (1 : Int)))) w_15)))))) ∧ ((decide (x44_17 ≥ (1 : Int))) = false → ((9 : Int) ≠ 0 ∧ N ((sizes0 : Value), (table3 : Value), (own4 : Value), code5) ((IntKind.i64.wrap (Int.tdiv rest6 (9 : Int))), false, (IntKind.i64.wrap (i8 - (1 : Int)))) w_15)))))) ∧ (fits7 = false → ((9 : Int) ≠ 0 ∧ N ((sizes0 : Value), (table3 : Value), (own4 : Value), code5) ((IntKind.i64.wrap (Int.tdiv rest6 (9 : Int))), false, (IntKind.i64.wrap (i8 - (1 : Int)))) w_15)))))))) ∧ ((decide (i8 ≥ (0 : Int))) = false → D2 ((sizes0 : Value), (table3 : Value), (own4 : Value), code5, rest6, fits7, ()) w))

abbrev L_spec_l08Table_9_e2 : List Slot := [.k .any, .junk, .junk, .k .any, .k .any, .k (.int .i64), .k (.int .i64), .k .bool, .junk, .junk, .junk, .junk, .junk, .junk, .junk, .junk, .junk, .junk, .junk, .junk, .junk, .junk, .junk, .junk, .junk, .junk, .junk, .junk, .junk, .junk, .junk, .junk, .junk, .junk, .junk, .junk, .junk, .junk, .junk, .junk, .junk, .junk, .junk, .junk, .junk, .junk, .junk, .junk, .junk, .junk, .junk, .junk, .junk, .junk, .junk, .junk, .junk, .junk, .junk, .junk, .junk, .junk, .junk, .junk, .junk, .junk, .junk, .junk, .junk, .junk, .junk, .junk, .junk, .junk, .junk, .junk, .junk, .junk, .junk, .junk, .junk, .junk, .junk, .junk, .junk, .junk, .junk, .junk]

abbrev L_spec_l08Table_9_sp : List Slot := [.k .any, .junk, .junk, .k .any, .k .any, .k (.int .i64), .k (.int .i64), .k .bool, .k (.int .i64), .junk, .junk, .junk, .junk, .junk, .junk, .junk, .junk, .junk, .junk, .junk, .junk, .junk, .junk, .junk, .junk, .junk, .junk, .junk, .junk, .junk, .junk, .junk, .junk, .junk, .junk, .junk, .junk, .junk, .junk, .junk, .junk, .junk, .junk, .junk, .junk, .junk, .junk, .junk, .junk, .junk, .junk, .junk, .junk, .junk, .junk, .junk, .junk, .junk, .junk, .junk, .junk, .junk, .junk, .junk, .junk, .junk, .junk, .junk, .junk, .junk, .junk, .junk, .junk, .junk, .junk, .junk, .junk, .junk, .junk, .junk, .junk, .junk, .junk, .junk, .junk, .junk, .junk, .junk]
abbrev L_spec_l08Table_9_ex : List (Nat × List Slot) := [(2, L_spec_l08Table_9_e2)]
abbrev L_spec_l08Table_9_rt : List Slot := [.junk, .junk, .junk, .junk, .junk, .junk, .junk, .junk, .junk, .junk, .junk, .junk, .junk, .junk, .junk, .junk, .junk, .junk, .junk, .junk, .junk, .junk, .junk, .junk, .junk, .junk, .junk, .junk, .junk, .junk, .junk, .junk, .junk, .junk, .junk, .junk, .junk, .junk, .junk, .junk, .junk, .junk, .junk, .junk, .junk, .junk, .junk, .junk, .junk, .junk, .junk, .junk, .junk, .junk, .junk, .junk, .junk, .junk, .junk, .junk, .junk, .junk, .junk, .junk, .junk, .junk, .junk, .junk, .junk, .junk, .junk, .junk, .junk, .junk, .junk, .junk, .junk, .junk, .junk, .junk, .junk, .junk, .junk, .junk, .junk, .junk, .junk, .junk]

def L_spec_l08Table_9_b (Φ : Post) (u : (Value × Value × Value × Int)) (N : (Value × Value × Value × Int) → (Int × Bool × Int) → World → Prop) (s : (Int × Bool × Int)) (w : World) : Prop :=
  B_spec_l08Table_9 u.1 u.2.1 u.2.2.1 u.2.2.2 s.1 s.2.1 s.2.2 N (fun v w => ∀ j : Nat → Value, Φ (.exit 2) (mkT j 0 L_spec_l08Table_9_e2 v) w) w

theorem L_spec_l08Table_9_eq (j : Nat → Value) (u : (Value × Value × Value × Int)) (s : (Int × Bool × Int)) (N : (Value × Value × Value × Int) → (Int × Bool × Int) → World → Prop) (D2 : (Value × Value × Value × Int × Int × Bool × Unit) → World → Prop) (R : (Unit) → World → Prop) (w : World) :
    W Try.prog ty (fun _ _ _ _ => False) (loopAt Try.f63 9) (loopPost L_spec_l08Table_9_sp [(2, (⟨L_spec_l08Table_9_e2, D2⟩ : Door))] ⟨L_spec_l08Table_9_rt, R⟩ (fun v w => N ((fun v => (v.1, v.2.1, v.2.2.1, v.2.2.2.1)) v) ((fun v => (v.2.2.2.2.1, v.2.2.2.2.2.1, v.2.2.2.2.2.2.1)) v) w)) (mkT j 0 L_spec_l08Table_9_sp ((fun u s => (u.1, u.2.1, u.2.2.1, u.2.2.2, s.1, s.2.1, s.2.2, ())) u s)) w =
    B_spec_l08Table_9 u.1 u.2.1 u.2.2.1 u.2.2.2 s.1 s.2.1 s.2.2 N D2 w := by
  kernel_rfl

def O_spec_l08Table_1 : Code → Post → List SV → World → Prop :=
  orc 9 (loopAt Try.f63 9) L_spec_l08Table_9_sp (fun Φ fr w => LOOP (U := (Value × Value × Value × Int)) (S := (Int × Bool × Int)) ((fun v => (v.1, v.2.1, v.2.2.1, v.2.2.2.1)) (extT L_spec_l08Table_9_sp fr)) (L_spec_l08Table_9_b Φ ((fun v => (v.1, v.2.1, v.2.2.1, v.2.2.2.1)) (extT L_spec_l08Table_9_sp fr))) ((fun v => (v.2.2.2.2.1, v.2.2.2.2.2.1, v.2.2.2.2.2.2.1)) (extT L_spec_l08Table_9_sp fr)) w) (fun _ _ _ _ => False)

theorem O_spec_l08Table_1_ok : Sound Try.prog O_spec_l08Table_1 :=
  orc_ok (sound_none _) fun Φ fr w hs h => loop_ok (ty := ty) follows (sound_none _) L_spec_l08Table_9_sp (fun v => (v.1, v.2.1, v.2.2.1, v.2.2.2.1)) (fun v => (v.2.2.2.2.1, v.2.2.2.2.2.1, v.2.2.2.2.2.2.1)) (fun u s => (u.1, u.2.1, u.2.2.1, u.2.2.2, s.1, s.2.1, s.2.2, ())) (fun _ => rfl) L_spec_l08Table_9_ex L_spec_l08Table_9_rt (body := L_spec_l08Table_9_b Φ) (fun j u s w N hb => by
    have e := L_spec_l08Table_9_eq j u s N (doorOf Φ (.exit 2) L_spec_l08Table_9_e2).D (doorOf Φ .ret L_spec_l08Table_9_rt).D w
    exact Eq.mpr e hb) hs h

def B_spec_l08Table_5 (sizes0 : Value) (table3 : Value) (own4 : Value) (code5 : Int) (N : (Value × Value × Value) → Int → World → Prop) (D0 : (Value × Value × Unit) → World → Prop) (w : World) : Prop :=
  (QAll Try.prog (Builtin.len_ #[24] 3 #[table3]) (.int .i64) fun (x22_10 : Int) => (((decide (code5 < x22_10)) = true → (QAll Try.prog (Builtin.len_ #[24] 3 #[sizes0]) (.int .i64) fun (x28_11 : Int) => (At (loopAt Try.f63 9) (loopAt Try.f63 9) (LOOP (U := (Value × Value × Value × Int)) (S := (Int × Bool × Int)) ((sizes0 : Value), (table3 : Value), (own4 : Value), code5) (fun N_30 s_31 w_32 => B_spec_l08Table_9 (sizes0 : Value) (table3 : Value) (own4 : Value) code5 s_31.1 s_31.2.1 s_31.2.2 N_30 (fun (v_22 : (Value × Value × Value × Int × Int × Bool × Unit)) w_23 => ∀ _j_24 : Nat → Value, ((v_22.2.2.2.2.2.1 = true → (((v_22.2.2.2.2.1 == (0 : Int)) = true → (Fc Try.prog 78 #[v_22.2.1, v_22.2.2.1] w_23 (.one (.int .i64)) fun (x69_26 : Int) w_25 => (QAll Try.prog (Instr.indexAt 24 v_22.2.1 (.int .i64 v_22.2.2.2.1)) .any fun (x70_27 : Value) => (PrU Try.prog (Instr.storeAt 2 x70_27 (.int .i64 x69_26)) w_25 fun w_28 => N ((v_22.1 : Value), (v_22.2.1 : Value), (v_22.2.2.1 : Value)) (IntKind.i64.wrap (v_22.2.2.2.1 + (1 : Int))) w_28)))) ∧ ((v_22.2.2.2.2.1 == (0 : Int)) = false → N ((v_22.1 : Value), (v_22.2.1 : Value), (v_22.2.2.1 : Value)) (IntKind.i64.wrap (v_22.2.2.2.1 + (1 : Int))) w_23))) ∧ (v_22.2.2.2.2.2.1 = false → N ((v_22.1 : Value), (v_22.2.1 : Value), (v_22.2.2.1 : Value)) (IntKind.i64.wrap (v_22.2.2.2.1 + (1 : Int))) w_23))) w_32) (code5, true, (IntKind.i64.wrap (x28_11 - (1 : Int)))) w)))) ∧ ((decide (code5 < x22_10)) = false → D0 ((sizes0 : Value), (table3 : Value), ()) w)))

abbrev L_spec_l08Table_5_e0 : List Slot := [.k .any, .junk, .junk, .k .any, .junk, .junk, .junk, .junk, .junk, .junk, .junk, .junk, .junk, .junk, .junk, .junk, .junk, .junk, .junk, .junk, .junk, .junk, .junk, .junk, .junk, .junk, .junk, .junk, .junk, .junk, .junk, .junk, .junk, .junk, .junk, .junk, .junk, .junk, .junk, .junk, .junk, .junk, .junk, .junk, .junk, .junk, .junk, .junk, .junk, .junk, .junk, .junk, .junk, .junk, .junk, .junk, .junk, .junk, .junk, .junk, .junk, .junk, .junk, .junk, .junk, .junk, .junk, .junk, .junk, .junk, .junk, .junk, .junk, .junk, .junk, .junk, .junk, .junk, .junk, .junk, .junk, .junk, .junk, .junk, .junk, .junk, .junk, .junk]

abbrev L_spec_l08Table_5_sp : List Slot := [.k .any, .junk, .junk, .k .any, .k .any, .k (.int .i64), .junk, .junk, .junk, .junk, .junk, .junk, .junk, .junk, .junk, .junk, .junk, .junk, .junk, .junk, .junk, .junk, .junk, .junk, .junk, .junk, .junk, .junk, .junk, .junk, .junk, .junk, .junk, .junk, .junk, .junk, .junk, .junk, .junk, .junk, .junk, .junk, .junk, .junk, .junk, .junk, .junk, .junk, .junk, .junk, .junk, .junk, .junk, .junk, .junk, .junk, .junk, .junk, .junk, .junk, .junk, .junk, .junk, .junk, .junk, .junk, .junk, .junk, .junk, .junk, .junk, .junk, .junk, .junk, .junk, .junk, .junk, .junk, .junk, .junk, .junk, .junk, .junk, .junk, .junk, .junk, .junk, .junk]
abbrev L_spec_l08Table_5_ex : List (Nat × List Slot) := [(0, L_spec_l08Table_5_e0)]
abbrev L_spec_l08Table_5_rt : List Slot := [.junk, .junk, .junk, .junk, .junk, .junk, .junk, .junk, .junk, .junk, .junk, .junk, .junk, .junk, .junk, .junk, .junk, .junk, .junk, .junk, .junk, .junk, .junk, .junk, .junk, .junk, .junk, .junk, .junk, .junk, .junk, .junk, .junk, .junk, .junk, .junk, .junk, .junk, .junk, .junk, .junk, .junk, .junk, .junk, .junk, .junk, .junk, .junk, .junk, .junk, .junk, .junk, .junk, .junk, .junk, .junk, .junk, .junk, .junk, .junk, .junk, .junk, .junk, .junk, .junk, .junk, .junk, .junk, .junk, .junk, .junk, .junk, .junk, .junk, .junk, .junk, .junk, .junk, .junk, .junk, .junk, .junk, .junk, .junk, .junk, .junk, .junk, .junk]

def L_spec_l08Table_5_b (Φ : Post) (u : (Value × Value × Value)) (N : (Value × Value × Value) → Int → World → Prop) (s : Int) (w : World) : Prop :=
  B_spec_l08Table_5 u.1 u.2.1 u.2.2 s N (fun v w => ∀ j : Nat → Value, Φ (.exit 0) (mkT j 0 L_spec_l08Table_5_e0 v) w) w

theorem L_spec_l08Table_5_eq (j : Nat → Value) (u : (Value × Value × Value)) (s : Int) (N : (Value × Value × Value) → Int → World → Prop) (D0 : (Value × Value × Unit) → World → Prop) (R : (Unit) → World → Prop) (w : World) :
    W Try.prog ty O_spec_l08Table_1 (loopAt Try.f63 5) (loopPost L_spec_l08Table_5_sp [(0, (⟨L_spec_l08Table_5_e0, D0⟩ : Door))] ⟨L_spec_l08Table_5_rt, R⟩ (fun v w => N ((fun v => (v.1, v.2.1, v.2.2.1)) v) ((fun v => v.2.2.2.1) v) w)) (mkT j 0 L_spec_l08Table_5_sp ((fun u s => (u.1, u.2.1, u.2.2, s, ())) u s)) w =
    B_spec_l08Table_5 u.1 u.2.1 u.2.2 s N D0 w := by
  kernel_rfl

def O_spec_l08Table_2 : Code → Post → List SV → World → Prop :=
  orc 5 (loopAt Try.f63 5) L_spec_l08Table_5_sp (fun Φ fr w => LOOP (U := (Value × Value × Value)) (S := Int) ((fun v => (v.1, v.2.1, v.2.2.1)) (extT L_spec_l08Table_5_sp fr)) (L_spec_l08Table_5_b Φ ((fun v => (v.1, v.2.1, v.2.2.1)) (extT L_spec_l08Table_5_sp fr))) ((fun v => v.2.2.2.1) (extT L_spec_l08Table_5_sp fr)) w) O_spec_l08Table_1

theorem O_spec_l08Table_2_ok : Sound Try.prog O_spec_l08Table_2 :=
  orc_ok O_spec_l08Table_1_ok fun Φ fr w hs h => loop_ok (ty := ty) follows O_spec_l08Table_1_ok L_spec_l08Table_5_sp (fun v => (v.1, v.2.1, v.2.2.1)) (fun v => v.2.2.2.1) (fun u s => (u.1, u.2.1, u.2.2, s, ())) (fun _ => rfl) L_spec_l08Table_5_ex L_spec_l08Table_5_rt (body := L_spec_l08Table_5_b Φ) (fun j u s w N hb => by
    have e := L_spec_l08Table_5_eq j u s N (doorOf Φ (.exit 0) L_spec_l08Table_5_e0).D (doorOf Φ .ret L_spec_l08Table_5_rt).D w
    exact Eq.mpr e hb) hs h

def B_spec_l08Table_18 (sizes0 : Value) (table3 : Value) (code9 : Int) (i10 : Int) (N : (Value × Value) → (Int × Int) → World → Prop) (D4 : (Value × Int × Unit) → World → Prop) (w : World) : Prop :=
  (QAll Try.prog (Builtin.len_ #[24] 3 #[sizes0]) (.int .i64) fun (x73_36 : Int) => (((decide (i10 < x73_36)) = true → (QAll Try.prog (Instr.indexAt 24 sizes0 (.int .i64 i10)) .any fun (x81_37 : Value) => (QSub Try.prog (Instr.loadAt 2 x81_37) w (.int .i64) fun (x82_38 : Int) => N ((sizes0 : Value), (table3 : Value)) ((IntKind.i64.wrap ((IntKind.i64.wrap (code9 * (9 : Int))) + x82_38)), (IntKind.i64.wrap (i10 + (1 : Int)))) w))) ∧ ((decide (i10 < x73_36)) = false → D4 ((table3 : Value), code9, ()) w)))

abbrev L_spec_l08Table_18_e4 : List Slot := [.junk, .junk, .junk, .k .any, .junk, .junk, .junk, .junk, .junk, .k (.int .i64), .junk, .junk, .junk, .junk, .junk, .junk, .junk, .junk, .junk, .junk, .junk, .junk, .junk, .junk, .junk, .junk, .junk, .junk, .junk, .junk, .junk, .junk, .junk, .junk, .junk, .junk, .junk, .junk, .junk, .junk, .junk, .junk, .junk, .junk, .junk, .junk, .junk, .junk, .junk, .junk, .junk, .junk, .junk, .junk, .junk, .junk, .junk, .junk, .junk, .junk, .junk, .junk, .junk, .junk, .junk, .junk, .junk, .junk, .junk, .junk, .junk, .junk, .junk, .junk, .junk, .junk, .junk, .junk, .junk, .junk, .junk, .junk, .junk, .junk, .junk, .junk, .junk, .junk]

abbrev L_spec_l08Table_18_sp : List Slot := [.k .any, .junk, .junk, .k .any, .junk, .junk, .junk, .junk, .junk, .k (.int .i64), .k (.int .i64), .junk, .junk, .junk, .junk, .junk, .junk, .junk, .junk, .junk, .junk, .junk, .junk, .junk, .junk, .junk, .junk, .junk, .junk, .junk, .junk, .junk, .junk, .junk, .junk, .junk, .junk, .junk, .junk, .junk, .junk, .junk, .junk, .junk, .junk, .junk, .junk, .junk, .junk, .junk, .junk, .junk, .junk, .junk, .junk, .junk, .junk, .junk, .junk, .junk, .junk, .junk, .junk, .junk, .junk, .junk, .junk, .junk, .junk, .junk, .junk, .junk, .junk, .junk, .junk, .junk, .junk, .junk, .junk, .junk, .junk, .junk, .junk, .junk, .junk, .junk, .junk, .junk]
abbrev L_spec_l08Table_18_ex : List (Nat × List Slot) := [(4, L_spec_l08Table_18_e4)]
abbrev L_spec_l08Table_18_rt : List Slot := [.junk, .junk, .junk, .junk, .junk, .junk, .junk, .junk, .junk, .junk, .junk, .junk, .junk, .junk, .junk, .junk, .junk, .junk, .junk, .junk, .junk, .junk, .junk, .junk, .junk, .junk, .junk, .junk, .junk, .junk, .junk, .junk, .junk, .junk, .junk, .junk, .junk, .junk, .junk, .junk, .junk, .junk, .junk, .junk, .junk, .junk, .junk, .junk, .junk, .junk, .junk, .junk, .junk, .junk, .junk, .junk, .junk, .junk, .junk, .junk, .junk, .junk, .junk, .junk, .junk, .junk, .junk, .junk, .junk, .junk, .junk, .junk, .junk, .junk, .junk, .junk, .junk, .junk, .junk, .junk, .junk, .junk, .junk, .junk, .junk, .junk, .junk, .junk]

def L_spec_l08Table_18_b (Φ : Post) (u : (Value × Value)) (N : (Value × Value) → (Int × Int) → World → Prop) (s : (Int × Int)) (w : World) : Prop :=
  B_spec_l08Table_18 u.1 u.2 s.1 s.2 N (fun v w => ∀ j : Nat → Value, Φ (.exit 4) (mkT j 0 L_spec_l08Table_18_e4 v) w) w

theorem L_spec_l08Table_18_eq (j : Nat → Value) (u : (Value × Value)) (s : (Int × Int)) (N : (Value × Value) → (Int × Int) → World → Prop) (D4 : (Value × Int × Unit) → World → Prop) (R : (Unit) → World → Prop) (w : World) :
    W Try.prog ty O_spec_l08Table_2 (loopAt Try.f63 18) (loopPost L_spec_l08Table_18_sp [(4, (⟨L_spec_l08Table_18_e4, D4⟩ : Door))] ⟨L_spec_l08Table_18_rt, R⟩ (fun v w => N ((fun v => (v.1, v.2.1)) v) ((fun v => (v.2.2.1, v.2.2.2.1)) v) w)) (mkT j 0 L_spec_l08Table_18_sp ((fun u s => (u.1, u.2, s.1, s.2, ())) u s)) w =
    B_spec_l08Table_18 u.1 u.2 s.1 s.2 N D4 w := by
  kernel_rfl

def O_spec_l08Table_3 : Code → Post → List SV → World → Prop :=
  orc 18 (loopAt Try.f63 18) L_spec_l08Table_18_sp (fun Φ fr w => LOOP (U := (Value × Value)) (S := (Int × Int)) ((fun v => (v.1, v.2.1)) (extT L_spec_l08Table_18_sp fr)) (L_spec_l08Table_18_b Φ ((fun v => (v.1, v.2.1)) (extT L_spec_l08Table_18_sp fr))) ((fun v => (v.2.2.1, v.2.2.2.1)) (extT L_spec_l08Table_18_sp fr)) w) O_spec_l08Table_2

theorem O_spec_l08Table_3_ok : Sound Try.prog O_spec_l08Table_3 :=
  orc_ok O_spec_l08Table_2_ok fun Φ fr w hs h => loop_ok (ty := ty) follows O_spec_l08Table_2_ok L_spec_l08Table_18_sp (fun v => (v.1, v.2.1)) (fun v => (v.2.2.1, v.2.2.2.1)) (fun u s => (u.1, u.2, s.1, s.2, ())) (fun _ => rfl) L_spec_l08Table_18_ex L_spec_l08Table_18_rt (body := L_spec_l08Table_18_b Φ) (fun j u s w N hb => by
    have e := L_spec_l08Table_18_eq j u s N (doorOf Φ (.exit 4) L_spec_l08Table_18_e4).D (doorOf Φ .ret L_spec_l08Table_18_rt).D w
    exact Eq.mpr e hb) hs h

def V_spec_l08Table (sizes0 : Value) (w : World) (K : Int → World → Prop) : Prop :=
  (QAll Try.prog (Builtin.len_ #[24] 3 #[sizes0]) (.int .i64) fun (x12_1 : Int) => (((decide (x12_1 < (3 : Int))) = true → (Fc Try.prog 77 #[sizes0] w (.one (.int .i64)) fun (x15_3 : Int) w_2 => K x15_3 w_2)) ∧ ((decide (x12_1 < (3 : Int))) = false → (∀ w_4, Drew w w_4 → (QAll Try.prog (Builtin.len_ #[24] 3 #[sizes0]) (.int .i64) fun (x18_5 : Int) => ((Pr Try.prog (Instr.makeSlice 24 (.int .i64 (6561 : Int)) (.int .i64 (6561 : Int))) w_4 (.one .any) fun (x16_7 : Value) w_6 => (Pr Try.prog (Instr.makeSlice 24 (.int .i64 x18_5) (.int .i64 x18_5)) w_6 (.one .any) fun (x19_9 : Value) w_8 => (At (loopAt Try.f63 5) (loopAt Try.f63 5) (LOOP (U := (Value × Value × Value)) (S := Int) ((sizes0 : Value), (x16_7 : Value), (x19_9 : Value)) (fun N_47 s_48 w_49 => B_spec_l08Table_5 (sizes0 : Value) (x16_7 : Value) (x19_9 : Value) s_48 N_47 (fun (v_33 : (Value × Value × Unit)) w_34 => ∀ _j_35 : Nat → Value, (At (loopAt Try.f63 18) (loopAt Try.f63 18) (LOOP (U := (Value × Value)) (S := (Int × Int)) ((v_33.1 : Value), (v_33.2.1 : Value)) (fun N_44 s_45 w_46 => B_spec_l08Table_18 (v_33.1 : Value) (v_33.2.1 : Value) s_45.1 s_45.2 N_44 (fun (v_39 : (Value × Int × Unit)) w_40 => ∀ _j_41 : Nat → Value, (QAll Try.prog (Instr.indexAt 24 v_39.1 (.int .i64 v_39.2.1)) .any fun (x86_42 : Value) => (QSub Try.prog (Instr.loadAt 2 x86_42) w_40 (.int .i64) fun (x87_43 : Int) => K x87_43 w_40))) w_46) ((0 : Int), (0 : Int)) w_34))) w_49) (0 : Int) w_8)))) ∧ (Pr Try.prog (Instr.makeSlice 24 (.int .i64 x18_5) (.int .i64 x18_5)) w_4 (.one .any) fun (x19_51 : Value) w_50 => (Pr Try.prog (Instr.makeSlice 24 (.int .i64 (6561 : Int)) (.int .i64 (6561 : Int))) w_50 (.one .any) fun (x16_53 : Value) w_52 => (At (loopAt Try.f63 5) (loopAt Try.f63 5) (LOOP (U := (Value × Value × Value)) (S := Int) ((sizes0 : Value), (x16_53 : Value), (x19_51 : Value)) (fun N_65 s_66 w_67 => B_spec_l08Table_5 (sizes0 : Value) (x16_53 : Value) (x19_51 : Value) s_66 N_65 (fun (v_54 : (Value × Value × Unit)) w_55 => ∀ _j_56 : Nat → Value, (At (loopAt Try.f63 18) (loopAt Try.f63 18) (LOOP (U := (Value × Value)) (S := (Int × Int)) ((v_54.1 : Value), (v_54.2.1 : Value)) (fun N_62 s_63 w_64 => B_spec_l08Table_18 (v_54.1 : Value) (v_54.2.1 : Value) s_63.1 s_63.2 N_62 (fun (v_57 : (Value × Int × Unit)) w_58 => ∀ _j_59 : Nat → Value, (QAll Try.prog (Instr.indexAt 24 v_57.1 (.int .i64 v_57.2.1)) .any fun (x86_60 : Value) => (QSub Try.prog (Instr.loadAt 2 x86_60) w_58 (.int .i64) fun (x87_61 : Int) => K x87_61 w_58))) w_64) ((0 : Int), (0 : Int)) w_55))) w_67) (0 : Int) w_52))))))))))

theorem eq_spec_l08Table (sizes0 : Value) (w : World) (K : Int → World → Prop) :
    W Try.prog ty O_spec_l08Table_3 (bodyOf Try.f63) (fnPost Try.prog Try.f63.results.toList (.one (.int .i64)) K) (frame0 [sizes0] 88) w = V_spec_l08Table sizes0 w K := by
  kernel_rfl

theorem body_spec_l08Table : Try.f63.body = some (bodyOf Try.f63) := by kernel_rfl
theorem name_spec_l08Table : (Try.f63.name == "runtime.NumGoroutine") = false := by kernel_rfl

theorem walk_spec_l08Table (sizes0 : Value) {w : World} {K : Int → World → Prop} (h : V_spec_l08Table sizes0 w K) : Fc Try.prog 63 #[sizes0] w (.one (.int .i64)) K :=
  fn_ok follows O_spec_l08Table_3_ok Try.func63 name_spec_l08Table body_spec_l08Table Try.ntmps63 [sizes0] (Eq.mpr (eq_spec_l08Table sizes0 w K) h)

-- uses S9Nb
/-- A list that the table keeps: as long as l, each number from one to l's. -/
def Fit (l q : List Int) : Prop := q.length = l.length ∧ ∀ i, i < l.length → 1 ≤ q.getD i 0 ∧ q.getD i 0 ≤ l.getD i 0
def FitK (l o : List Int) (k : Nat) : Prop := ∀ i, k ≤ i → i < l.length → 1 ≤ o.getD i 0 ∧ o.getD i 0 ≤ l.getD i 0
def Tab (l tab : List Int) (c : Int) : Prop := ∀ q, Fit l q → cdI q < c → tab.getD (cdI q).toNat 0 = min (nb q) capN
theorem fit_bd {l q : List Int} (h : Fit l q) (hb : ∀ x ∈ l, 1 ≤ x ∧ x ≤ 8) : ∀ x ∈ q, 1 ≤ x ∧ x ≤ 8 := by
  intro x hx
  obtain ⟨i, hi, rfl⟩ := List.getElem_of_mem hx
  have hl := h.1
  have := h.2 i (by omega)
  have hb := hb l[i] (List.getElem_mem (by omega))
  rw [List.getD_eq_getElem?_getD, List.getElem?_eq_getElem hi, List.getD_eq_getElem?_getD, List.getElem?_eq_getElem (show i < l.length by omega)] at this
  simp only [Option.getD_some] at this
  omega
theorem fit_less {l q : List Int} (h : Fit l q) {i : Nat} (hi : i < q.length) (h2 : 2 < q.getD i 0) : Fit l (lessAt q i) := by
  refine ⟨by rw [less_len]; exact h.1, fun j hj => ?_⟩
  have hq := h.2 j hj
  unfold lessAt
  by_cases e : i = j
  · subst e
    rw [List.getD_eq_getElem?_getD, List.getElem?_set_self hi, Option.getD_some]
    omega
  · rw [List.getD_eq_getElem?_getD, List.getElem?_set_ne e, ← List.getD_eq_getElem?_getD]
    exact hq
theorem fit_self {l : List Int} (hb : ∀ x ∈ l, 1 ≤ x ∧ x ≤ 8) : Fit l l := ⟨rfl, fun i hi => by
  have := hb l[i] (List.getElem_mem hi)
  rw [List.getD_eq_getElem?_getD, List.getElem?_eq_getElem hi, Option.getD_some]
  omega⟩
theorem pow_le9 {n : Nat} (h : n ≤ 4) : (9 : Int) ^ n ≤ 6561 := by
  have : n = 0 ∨ n = 1 ∨ n = 2 ∨ n = 3 ∨ n = 4 := by omega
  rcases this with h | h | h | h | h <;> rw [h] <;> decide
theorem c_spec_l08Table {v : Value} {l : List Int} {w : World} {K : Int → World → Prop} (h : SlI w v l) (hl : l.length ≤ 4) (hb : ∀ x ∈ l, 1 ≤ x ∧ x ≤ 8) (hK : ∀ w', Below w.heap.size w w' → K (min (nb l) capN) w') :
    Fc Try.prog F_spec_l08Table #[v] w (.one (.int .i64)) K := by
  refine walk_spec_l08Table _ (lenI h ⟨fun e => ?_, fun e => ?_⟩)
  · have e := dec_t e
    refine c_spec_l08Bound h (by omega) hb fun w1 q1 => ?_
    have hle := nb_two (l := l) (by omega) fun x hx => (hb x hx).2
    have : min (nb l) capN = nb l := by unfold capN; omega
    rw [← this]; exact hK w1 q1
  have e := dec_f e
  have h3 : 3 ≤ l.length := by omega
  intro w1 hd
  have q1 := hd.below w.heap.size
  have z1 := q1.size
  refine lenI (h.keep q1) ?_
  have hdig : Dig l := fun x hx => by have := hb x hx; omega
  have main : ∀ {w2 : World} {bt bo : Nat} {tv ov : Value}, Below w.heap.size w w2 → w.heap.size ≤ bt → w.heap.size ≤ bo → bt ≠ bo → OwnI w2 bt tv (List.replicate 6561 0) → OwnI w2 bo ov (List.replicate l.length 0) →
      At (loopAt Try.f63 5) (loopAt Try.f63 5) (LOOP (U := (Value × Value × Value)) (S := Int) (v, tv, ov) (fun N s w' => B_spec_l08Table_5 v tv ov s N (fun x w' => ∀ _j : Nat → Value, At (loopAt Try.f63 18) (loopAt Try.f63 18) (LOOP (U := (Value × Value)) (S := (Int × Int)) (x.1, x.2.1) (fun N s w' => B_spec_l08Table_18 x.1 x.2.1 s.1 s.2 N (fun y w' => ∀ _j : Nat → Value, QAll Try.prog (Instr.indexAt tSI y.1 (.int .i64 y.2.1)) .any fun p => QSub Try.prog (Instr.loadAt tI p) w' (.int .i64) fun r => K r w') w') (0, 0) w')) w') 0 w2) := by
    intro w2 bt bo tv ov q2 hbt hbo hne o2 p2
    refine lp (fun c w' => 0 ≤ c ∧ c ≤ 6561 ∧ Below w.heap.size w w' ∧ (∃ tab, tab.length = 6561 ∧ OwnI w' bt tv tab ∧ Tab l tab c) ∧ ∃ o, o.length = l.length ∧ OwnI w' bo ov o) (fun c _ => (6561 - c).toNat)
      ⟨by omega, by omega, q2, ⟨_, by simp, o2, fun q hq hc => absurd hc (by
        have := cd_bd q.length q rfl fun x hx => by have := fit_bd hq hb x hx; omega
        omega)⟩, _, by simp, p2⟩ ?_
    rintro c w3 N ⟨c0, c1, q3, ⟨tab, tl, o3, hT⟩, o, ol, p3⟩ hN
    unfold B_spec_l08Table_5
    have z3 := q3.size
    have hnebo : bo ∉ [bt] := by simpa using Ne.symm hne
    have hnebt : bt ∉ [bo] := by simpa using hne
    refine lenI (own_slI o3 (by omega)) ⟨fun hlt => ?_, fun hge _ => ?_⟩
    · have hlt : c < (tab.length : Int) := dec_t hlt
      refine lenI (h.keep q3) ?_
      rw [wrap_small (n := (l.length : Int) - 1) (by omega) (by omega)]
      refine lp (fun s w' => ∃ (k : Nat) (o : List Int), s.2.2 = (k : Int) - 1 ∧ k ≤ l.length ∧ o.length = l.length ∧ OwnI w' bo ov o ∧ Mod [bo] w3 w' ∧ 0 ≤ s.1 ∧ s.1 ≤ 6561 ∧ digs l.length c = digs k s.1 ++ o.drop k ∧ c / 9 ^ l.length = s.1 / 9 ^ k ∧ (s.2.1 = true ↔ FitK l o k)) (fun s _ => (s.2.2 + 1).toNat)
        ⟨l.length, o, rfl, Nat.le_refl _, ol, p3, Mod.refl _ _, c0, by omega, by rw [← ol, List.drop_length, List.append_nil], rfl, by simp [FitK]; omega⟩ ?_
      rintro ⟨rest, fits, j_⟩ w4 N2 ⟨k, o4l, ej, hk, ol4, p4, m4, r0, r1, hdg, hdv, hf⟩ hN2
      simp only at ej r0 r1 hdg hdv hf
      subst ej
      unfold B_spec_l08Table_9
      dsimp only
      refine ⟨fun hg => ?_, fun hg _ => ?_⟩
      · have hg : (k : Int) - 1 ≥ 0 := dec_t hg
        obtain ⟨m, rfl⟩ : ∃ m, k = m + 1 := ⟨k - 1, by omega⟩
        have hmi : (((m + 1 : Nat) : Int) - 1).toNat = m := by omega
        have hml : m < o4l.length := by omega
        have tm : Int.tmod rest 9 = rest % 9 := Int.tmod_eq_emod_of_nonneg r0
        have td : Int.tdiv rest 9 = rest / 9 := Int.tdiv_eq_ediv_of_nonneg r0
        refine ⟨by omega, putI p4 (by omega) (by omega) fun w5 m5 s5 p5 => fun w6 hd6 => ?_⟩
        rw [hmi, tm] at p5
        have p6 := p5.keep (hd6.below _)
        have m46 : Mod [bo] w3 w6 := (m4.trans m5).trans (mod_of_below (hd6.below _) _)
        have q6 : Below w.heap.size w w6 := q3.trans (m46.below z3 (by simp; omega))
        have sl6 : SlI w6 ov (o4l.set m (rest % 9)) := own_slI p6 (by simp; omega)
        have hget : (o4l.set m (rest % 9)).getD m 0 = rest % 9 := by rw [List.getD_eq_getElem?_getD, List.getElem?_set_self hml]; rfl
        have hdrop : (o4l.set m (rest % 9)).drop m = rest % 9 :: o4l.drop (m + 1) := by
          rw [List.drop_eq_getElem_cons (by simpa using hml), List.getElem_set_self, List.drop_set_of_lt (by omega)]
        have hdg' : digs l.length c = digs m (rest / 9) ++ (o4l.set m (rest % 9)).drop m := by
          rw [hdg, hdrop]
          simp [digs]
        have hdv' : c / 9 ^ l.length = rest / 9 / 9 ^ m := by
          rw [hdv, Int.pow_succ, Int.mul_comm, Int.ediv_ediv_of_nonneg (by omega)]
        have hfk : FitK l (o4l.set m (rest % 9)) m ↔ (1 ≤ rest % 9 ∧ rest % 9 ≤ l.getD m 0) ∧ FitK l o4l (m + 1) := by
          constructor
          · intro hh
            refine ⟨by have := hh m (Nat.le_refl _) (by omega); rwa [hget] at this, fun i hi hil => ?_⟩
            have := hh i (by omega) hil
            rwa [List.getD_eq_getElem?_getD, List.getElem?_set_ne (by omega), ← List.getD_eq_getElem?_getD] at this
          · rintro ⟨ha, hh⟩ i hi hil
            by_cases e : m = i
            · subst e; rw [hget]; exact ha
            · rw [List.getD_eq_getElem?_getD, List.getElem?_set_ne e, ← List.getD_eq_getElem?_getD]
              exact hh i (by omega) hil
        have wi : IntKind.i64.wrap (((m + 1 : Nat) : Int) - 1 - 1) = (m : Int) - 1 := by rw [wrap_small (by omega) (by omega)]; omega
        rw [td, wrap_small (n := rest / 9) (by omega) (by omega), wi]
        have next : ∀ f : Bool, (f = true ↔ (1 ≤ rest % 9 ∧ rest % 9 ≤ l.getD m 0) ∧ FitK l o4l (m + 1)) → N2 (v, tv, ov, c) (rest / 9, f, (m : Int) - 1) w6 := fun f hff =>
          hN2 _ _ ⟨m, _, rfl, by omega, by simpa using ol4, p6, m46, by simp only; omega, by simp only; omega, hdg', hdv', by rw [hfk]; exact hff⟩ (by simp only; omega)
        refine ⟨fun ft => atI sl6 (by omega) (by simp; omega) ?_, fun ft => ⟨by omega, next false (by rw [← hf, ft]; simp)⟩⟩
        rw [hmi, hget]
        refine ⟨fun g1 => atI sl6 (by omega) (by simp; omega) (atI (h.keep q6) (by omega) (by omega) ⟨by omega, ?_⟩), fun g1 => ⟨by omega, next false ?_⟩⟩
        · have g1 : rest % 9 ≥ 1 := dec_t g1
          rw [hmi, hget]
          refine next _ ?_
          rw [← hf, ft]
          simp
          omega
        · have g1 : ¬ rest % 9 ≥ 1 := dec_f g1
          rw [← hf, ft]
          simp
          omega
      · have hg : ¬ (k : Int) - 1 ≥ 0 := dec_f hg
        have hk0 : k = 0 := by omega
        subst hk0
        have hoc : digs l.length c = o4l := by simpa [digs] using hdg
        have hrv : c / 9 ^ l.length = rest := by simpa using hdv
        have o4 : OwnI w4 bt tv tab := o3.mod m4 hnebt
        have q4 : Below w.heap.size w w4 := q3.trans (m4.below z3 (by simp; omega))
        have z4 := q4.size
        rw [wrap_small (n := c + 1) (by omega) (by omega)]
        -- what the table keeps, if this one is none of them
        have skip : ¬ (fits = true ∧ rest = 0) → Tab l tab (c + 1) := fun hno q hq hc => by
          by_cases hqc : cdI q < c
          · exact hT q hq hqc
          · exfalso
            have hqc : cdI q = c := by omega
            have hqd : Dig q := fun x hx => by have := fit_bd hq hb x hx; omega
            have e1 := digs_cd l.length q hq.1 hqd
            have e2 := cd_bd l.length q hq.1 hqd
            rw [hqc] at e1 e2
            rw [hoc] at e1
            subst e1
            refine hno ⟨hf.2 fun i _ hi => hq.2 i hi, ?_⟩
            rw [← hrv]
            exact Int.ediv_eq_zero_of_lt c0 e2.2
        have go : Tab l tab (c + 1) → N (v, tv, ov) (c + 1) w4 := fun ht => hN _ _ ⟨by omega, by omega, q4, ⟨tab, tl, o4, ht⟩, o4l, ol4, p4⟩ (by omega)
        refine ⟨fun ft => ⟨fun rz => ?_, fun rz => go (skip fun hh => eq_f rz hh.2)⟩, fun ft => go (skip fun hh => by rw [ft] at hh; exact absurd hh.1 (by simp))⟩
        have rz := eq_t rz
        have hfit : Fit l o4l := ⟨ol4, fun i hi => hf.1 ft i (Nat.zero_le _) hi⟩
        have hob := fit_bd hfit hb
        have hclt : c < 9 ^ l.length := by
          have hp := pow9 l.length
          rw [rz] at hrv
          by_cases hh : c < 9 ^ l.length
          · exact hh
          · exfalso
            have : 1 ≤ c / 9 ^ l.length := by
              rw [Int.le_ediv_iff_mul_le (by omega)]
              omega
            omega
        have hcd : cdI o4l = c := by rw [← hoc]; exact cd_digs _ _ c0 hclt
        refine c_spec_l08Step (own_slI o4 (by omega)) tl (own_slI p4 (by omega)) (by omega) (by omega) hob (fun i hi h2 => ?_) fun w5 q5 => ?_
        · refine hT _ (fit_less hfit hi h2) ?_
          rw [cd_less hi, hcd]
          have := pow9 (o4l.length - 1 - i)
          omega
        have o5 := o4.keep q5
        refine putI o5 c0 (by omega) fun w6 m6 s6 o6 => ?_
        have z5 := q5.size
        have q6 : Below w.heap.size w w6 := (q4.trans (q5.mono z4)).trans (m6.below (by omega) (by simp; omega))
        refine hN _ _ ⟨by omega, by omega, q6, ⟨tab.set c.toNat (min (nb o4l) capN), by simpa using tl, o6, fun q hq hc => ?_⟩, o4l, ol4, (p4.keep q5).mod m6 hnebo⟩ (by omega)
        by_cases hqc : cdI q < c
        · rw [List.getD_eq_getElem?_getD, List.getElem?_set_ne (by
            have := cd_bd q.length q rfl fun x hx => by have := fit_bd hq hb x hx; omega
            omega), ← List.getD_eq_getElem?_getD]
          exact hT q hq hqc
        · have hqc : cdI q = c := by omega
          have hqd : Dig q := fun x hx => by have := fit_bd hq hb x hx; omega
          have e1 := digs_cd l.length q hq.1 hqd
          rw [hqc, hoc] at e1
          subst e1
          rw [hcd, List.getD_eq_getElem?_getD, List.getElem?_set_self (by omega)]
          rfl
    · have hge : ¬ c < (tab.length : Int) := dec_f hge
      have sl3 := h.keep q3
      have hfs := fit_self hb
      have hcb := cd_bd l.length l rfl hdig
      have p9 := pow_le9 (n := l.length) hl
      have htab := hT l hfs (by omega)
      refine lp (fun s w' => w' = w3 ∧ ∃ i : Nat, s.2 = (i : Int) ∧ i ≤ l.length ∧ s.1 = cdI (l.take i)) (fun s _ => ((l.length : Int) - s.2).toNat) ⟨rfl, 0, rfl, Nat.zero_le _, rfl⟩ ?_
      rintro ⟨cc, i_⟩ w4 N2 ⟨ew, i, ei, hi, ec⟩ hN2
      simp only at ei ec
      subst ew; subst ei; subst ec
      unfold B_spec_l08Table_18
      dsimp only
      have hci := cd_bd i (l.take i) (by simp; omega) fun x hx => hdig x (List.mem_of_mem_take hx)
      have hpi := pow_le9 (n := i) (by omega)
      refine lenI sl3 ⟨fun hlt2 => ?_, fun hge2 _ => ?_⟩
      · have hlt2 : (i : Int) < l.length := dec_t hlt2
        have hil : i < l.length := by omega
        have htk : l.take (i + 1) = l.take i ++ [l[i]] := by rw [List.take_add_one, List.getElem?_eq_getElem hil]; rfl
        have hx := hb l[i] (List.getElem_mem hil)
        have hg : l.getD ((i : Nat) : Int).toNat 0 = l[i] := by rw [Int.toNat_natCast, List.getD_eq_getElem?_getD, List.getElem?_eq_getElem hil]; rfl
        refine atI sl3 (by omega) hlt2 ?_
        rw [hg, wrap_small (n := cdI (l.take i) * 9) (by omega) (by omega), wrap_small (n := cdI (l.take i) * 9 + l[i]) (by omega) (by omega), wrap_small (n := (i : Int) + 1) (by omega) (by omega)]
        exact hN2 _ _ ⟨rfl, i + 1, by simp, by omega, by rw [htk, cd_snoc]⟩ (by simp only; omega)
      · have hge2 : ¬ (i : Int) < l.length := dec_f hge2
        rw [List.take_of_length_le (by omega)]
        refine atI (own_slI o3 (by omega)) hcb.1 (by omega) ?_
        rw [htab]
        exact hK _ q3
  have e6 : (6561 : Int).toNat = 6561 := rfl
  have en : ((l.length : Nat) : Int).toNat = l.length := by omega
  constructor
  · refine mkI (n := 6561) (by omega) (by omega) fun bt tv w2 n2 o2 => mkI (by omega) (by omega) fun bo ov w3 n3 p3 => ?_
    rw [e6] at o2
    rw [en] at p3
    have a2 := n2.here; have b2 := n2.size; have a3 := n3.here; have b3 := n3.size
    exact main ((q1.trans (n2.below.mono z1)).trans (n3.below.mono (by omega))) (by omega) (by omega) (by omega) (o2.keep n3.below) p3
  · refine mkI (by omega) (by omega) fun bo ov w2 n2 p2 => mkI (n := 6561) (by omega) (by omega) fun bt tv w3 n3 o3 => ?_
    rw [e6] at o3
    rw [en] at p2
    have a2 := n2.here; have b2 := n2.size; have a3 := n3.here; have b3 := n3.size
    exact main ((q1.trans (n2.below.mono z1)).trans (n3.below.mono (by omega))) (by omega) (by omega) (by omega) o3 (p2.keep n3.below)

end Go.Proofs.Ytlbhpbaeokgmaaa

/- The reading of spec_NeighbourBound, and its contract. No condition. -/
namespace Go.Proofs.Ytlbhpbaeokgmaaa
open Go Go.RowKit Eng Mem
set_option linter.unusedVariables false
set_option maxRecDepth 100000
def B_spec_NeighbourBound_4 (sizes0 : Value) (i4 : Int) (N : Value → Int → World → Prop) (D0 : (Value × Unit) → World → Prop) (R : (Int × Int × Unit) → World → Prop) (w : World) : Prop :=
  (QAll Try.prog (Builtin.len_ #[24] 3 #[sizes0]) (.int .i64) fun (x16_3 : Int) => (((decide (i4 < x16_3)) = true → (QAll Try.prog (Instr.indexAt 24 sizes0 (.int .i64 i4)) .any fun (x22_4 : Value) => (QSub Try.prog (Instr.loadAt 2 x22_4) w (.int .i64) fun (x23_5 : Int) => (Fc Try.prog 53 #[(.int .i64 x23_5), (.int .i64 (1 : Int)), (.int .i64 (8 : Int))] w (.one .bool) fun (x24_7 : Bool) w_6 => (((!x24_7) = true → R ((0 : Int), (2 : Int), ()) w_6) ∧ ((!x24_7) = false → N (sizes0 : Value) (IntKind.i64.wrap (i4 + (1 : Int))) w_6)))))) ∧ ((decide (i4 < x16_3)) = false → D0 ((sizes0 : Value), ()) w)))

abbrev L_spec_NeighbourBound_4_e0 : List Slot := [.k .any, .junk, .junk, .junk, .junk, .junk, .junk, .junk, .junk, .junk, .junk, .junk, .junk, .junk, .junk, .junk, .junk, .junk, .junk, .junk, .junk, .junk, .junk, .junk, .junk, .junk, .junk, .junk, .junk, .junk, .junk]

abbrev L_spec_NeighbourBound_4_sp : List Slot := [.k .any, .junk, .junk, .junk, .k (.int .i64), .junk, .junk, .junk, .junk, .junk, .junk, .junk, .junk, .junk, .junk, .junk, .junk, .junk, .junk, .junk, .junk, .junk, .junk, .junk, .junk, .junk, .junk, .junk, .junk, .junk, .junk]
abbrev L_spec_NeighbourBound_4_ex : List (Nat × List Slot) := [(0, L_spec_NeighbourBound_4_e0)]
abbrev L_spec_NeighbourBound_4_rt : List Slot := [.junk, .junk, .k (.int .i64), .k (.int .i64), .junk, .junk, .junk, .junk, .junk, .junk, .junk, .junk, .junk, .junk, .junk, .junk, .junk, .junk, .junk, .junk, .junk, .junk, .junk, .junk, .junk, .junk, .junk, .junk, .junk, .junk, .junk]

def L_spec_NeighbourBound_4_b (Φ : Post) (u : Value) (N : Value → Int → World → Prop) (s : Int) (w : World) : Prop :=
  B_spec_NeighbourBound_4 u s N (fun v w => ∀ j : Nat → Value, Φ (.exit 0) (mkT j 0 L_spec_NeighbourBound_4_e0 v) w) (fun v w => ∀ j : Nat → Value, Φ .ret (mkT j 0 L_spec_NeighbourBound_4_rt v) w) w

theorem L_spec_NeighbourBound_4_eq (j : Nat → Value) (u : Value) (s : Int) (N : Value → Int → World → Prop) (D0 : (Value × Unit) → World → Prop) (R : (Int × Int × Unit) → World → Prop) (w : World) :
    W Try.prog ty (fun _ _ _ _ => False) (loopAt Try.f31 4) (loopPost L_spec_NeighbourBound_4_sp [(0, (⟨L_spec_NeighbourBound_4_e0, D0⟩ : Door))] ⟨L_spec_NeighbourBound_4_rt, R⟩ (fun v w => N ((fun v => v.1) v) ((fun v => v.2.1) v) w)) (mkT j 0 L_spec_NeighbourBound_4_sp ((fun u s => (u, s, ())) u s)) w =
    B_spec_NeighbourBound_4 u s N D0 R w := by
  kernel_rfl

def O_spec_NeighbourBound_1 : Code → Post → List SV → World → Prop :=
  orc 4 (loopAt Try.f31 4) L_spec_NeighbourBound_4_sp (fun Φ fr w => LOOP (U := Value) (S := Int) ((fun v => v.1) (extT L_spec_NeighbourBound_4_sp fr)) (L_spec_NeighbourBound_4_b Φ ((fun v => v.1) (extT L_spec_NeighbourBound_4_sp fr))) ((fun v => v.2.1) (extT L_spec_NeighbourBound_4_sp fr)) w) (fun _ _ _ _ => False)

theorem O_spec_NeighbourBound_1_ok : Sound Try.prog O_spec_NeighbourBound_1 :=
  orc_ok (sound_none _) fun Φ fr w hs h => loop_ok (ty := ty) follows (sound_none _) L_spec_NeighbourBound_4_sp (fun v => v.1) (fun v => v.2.1) (fun u s => (u, s, ())) (fun _ => rfl) L_spec_NeighbourBound_4_ex L_spec_NeighbourBound_4_rt (body := L_spec_NeighbourBound_4_b Φ) (fun j u s w N hb => by
    have e := L_spec_NeighbourBound_4_eq j u s N (doorOf Φ (.exit 0) L_spec_NeighbourBound_4_e0).D (doorOf Φ .ret L_spec_NeighbourBound_4_rt).D w
    exact Eq.mpr e hb) hs h

def V_spec_NeighbourBound (sizes0 : Value) (w : World) (K : (Int × Int) → World → Prop) : Prop :=
  (QAll Try.prog (Builtin.len_ #[24] 3 #[sizes0]) (.int .i64) fun (x7_1 : Int) => (((decide (x7_1 < (1 : Int))) = true → K ((0 : Int), (2 : Int)) w) ∧ ((decide (x7_1 < (1 : Int))) = false → (QAll Try.prog (Builtin.len_ #[24] 3 #[sizes0]) (.int .i64) fun (x11_2 : Int) => (((decide (x11_2 > (4 : Int))) = true → K ((0 : Int), (2 : Int)) w) ∧ ((decide (x11_2 > (4 : Int))) = false → (At (loopAt Try.f31 4) (loopAt Try.f31 4) (LOOP (U := Value) (S := Int) (sizes0 : Value) (fun N_16 s_17 w_18 => B_spec_NeighbourBound_4 (sizes0 : Value) s_17 N_16 (fun (v_8 : (Value × Unit)) w_9 => ∀ _j_10 : Nat → Value, (Fc Try.prog 63 #[v_8.1] w_9 (.one (.int .i64)) fun (x27_12 : Int) w_11 => (((decide (x27_12 > (1000000000 : Int))) = true → K ((0 : Int), (3 : Int)) w_11) ∧ ((decide (x27_12 > (1000000000 : Int))) = false → K (x27_12, (0 : Int)) w_11)))) (fun (v_13 : (Int × Int × Unit)) w_14 => ∀ _j_15 : Nat → Value, K (v_13.1, v_13.2.1) w_14) w_18) (0 : Int) w))))))))

theorem eq_spec_NeighbourBound (sizes0 : Value) (w : World) (K : (Int × Int) → World → Prop) :
    W Try.prog ty O_spec_NeighbourBound_1 (bodyOf Try.f31) (fnPost Try.prog Try.f31.results.toList (.two (.int .i64) (.int .i64)) K) (frame0 [sizes0] 31) w = V_spec_NeighbourBound sizes0 w K := by
  kernel_rfl

theorem body_spec_NeighbourBound : Try.f31.body = some (bodyOf Try.f31) := by kernel_rfl
theorem name_spec_NeighbourBound : (Try.f31.name == "runtime.NumGoroutine") = false := by kernel_rfl

theorem walk_spec_NeighbourBound (sizes0 : Value) {w : World} {K : (Int × Int) → World → Prop} (h : V_spec_NeighbourBound sizes0 w K) : Fc Try.prog 31 #[sizes0] w (.two (.int .i64) (.int .i64)) K :=
  fn_ok follows O_spec_NeighbourBound_1_ok Try.func31 name_spec_NeighbourBound body_spec_NeighbourBound Try.ntmps31 [sizes0] (Eq.mpr (eq_spec_NeighbourBound sizes0 w K) h)

-- uses S9Nb
theorem c_spec_NeighbourBound {v : Value} {l : List Int} {w : World} {K : Int × Int → World → Prop} (h : ArgI w v l) (hK : ∀ w', Below w.heap.size w w' → K ((nbOf l).1, (nbOf l).2) w') :
    Fc Try.prog F_spec_NeighbourBound #[v] w (.two (.int .i64) (.int .i64)) K := by
  have hl := h.len
  have bad : ∀ w', Below w.heap.size w w' → ¬ (1 ≤ l.length ∧ l.length ≤ 4 ∧ ∀ x ∈ l, 1 ≤ x ∧ x ≤ 8) → K (0, 2) w' := fun w' q hn => by
    have := hK w' q; unfold nbOf at this; rwa [if_neg hn] at this
  refine walk_spec_NeighbourBound _ (lenI h.sl ⟨fun e => bad w (Below.refl _ _) fun hh => by have := dec_t e; omega, fun e1 => lenI h.sl ⟨fun e => bad w (Below.refl _ _) fun hh => by have := dec_t e; omega, fun e2 => ?_⟩⟩)
  have e1 := dec_f e1; have e2 := dec_f e2
  refine lp (fun i w' => w' = w ∧ ∃ n : Nat, i = (n : Int) ∧ n ≤ l.length ∧ ∀ x ∈ l.take n, 1 ≤ x ∧ x ≤ 8) (fun i _ => ((l.length : Int) - i).toNat) ⟨rfl, 0, rfl, Nat.zero_le _, by simp⟩ ?_
  rintro i_ w1 N ⟨ew, i, ei, hi, hall⟩ hN
  subst ew; subst ei
  unfold B_spec_NeighbourBound_4
  refine lenI h.sl ⟨fun hlt => ?_, fun hge _ => ?_⟩
  · have hlt : (i : Int) < l.length := dec_t hlt
    have hil : i < l.length := by omega
    have hg : l.getD ((i : Nat) : Int).toNat 0 = l[i] := by rw [Int.toNat_natCast, List.getD_eq_getElem?_getD, List.getElem?_eq_getElem hil]; rfl
    refine atI h.sl (by omega) hlt ?_
    rw [hg]
    refine c_spec_l01In _ _ _ ⟨fun e _ => bad _ (Below.refl _ _) fun hh => notd_t e (hh.2.2 _ (List.getElem_mem hil)), fun e => ?_⟩
    have e := notd_f e
    rw [wrap_small (by omega) (by omega)]
    refine hN _ _ ⟨rfl, i + 1, by simp, by omega, fun x hx => ?_⟩ (by omega)
    rw [List.take_add_one, List.getElem?_eq_getElem hil] at hx
    rcases List.mem_append.1 hx with hx | hx
    · exact hall x hx
    · have : x = l[i] := by simpa using hx
      subst this; exact e
  · have hge : ¬ (i : Int) < l.length := dec_f hge
    rw [List.take_of_length_le (by omega)] at hall
    refine c_spec_l08Table h.sl (by omega) hall fun w2 q2 => ?_
    have hk := hK w2 q2
    unfold nbOf at hk
    rw [if_pos ⟨by omega, by omega, hall⟩] at hk
    have hp := nb_ge l
    refine ⟨fun e => ?_, fun e => ?_⟩
    · have e : min (nb l) capN > 1000000000 := dec_t e
      rw [if_pos (by unfold capN at e; omega)] at hk; exact hk
    · have e : ¬ min (nb l) capN > 1000000000 := dec_f e
      have : ¬ 1000000000 < nb l := by unfold capN at e; omega
      rw [if_neg this] at hk
      have e3 : min (nb l) capN = nb l := by unfold capN; omega
      rw [e3]; exact hk

end Go.Proofs.Ytlbhpbaeokgmaaa
