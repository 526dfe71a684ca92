/- The reading of laws_toByteA136, and its contract. No condition. -/
import Derived.Test.YtkadckhealbdaaaTy
import Derived.Test.YtkadckhealbdaaaS1Col
namespace Go.Proofs.Ytkadckhealbdaaa
open Go Go.RowKit Eng Mem
set_option linter.unusedVariables false
set_option maxRecDepth 100000
def B_laws_toByteA136_3 (a1 : Value) (x2 : Value) (out3 : Value) (i4 : Int) (N : (Value × Value × Value) → Int → World → Prop) (D0 : (Value × Value × Unit) → World → Prop) (w : World) : Prop :=
  (((decide (i4 < (136 : Int))) = true → (QAll Try.prog (Instr.indexAt 22 a1 (.int .i64 i4)) .any fun (x11_7 : Value) => (QSub Try.prog (Instr.loadAt 5 x11_7) w (.int .u8) fun (x12_8 : Int) => (QAll Try.prog (Instr.indexAt 22 out3 (.int .i64 i4)) .any fun (x13_9 : Value) => (PrU Try.prog (Instr.storeAt 5 x13_9 (.int .u8 x12_8)) w fun w_10 => N ((a1 : Value), (x2 : Value), (out3 : Value)) (IntKind.i64.wrap (i4 + (1 : Int))) w_10))))) ∧ ((decide (i4 < (136 : Int))) = false → D0 ((x2 : Value), (out3 : Value), ()) w))

abbrev L_laws_toByteA136_3_e0 : List Slot := [.junk, .junk, .k .any, .k .any, .junk, .junk, .junk, .junk, .junk, .junk, .junk, .junk, .junk, .junk, .junk]

abbrev L_laws_toByteA136_3_sp : List Slot := [.junk, .k .any, .k .any, .k .any, .k (.int .i64), .junk, .junk, .junk, .junk, .junk, .junk, .junk, .junk, .junk, .junk]
abbrev L_laws_toByteA136_3_ex : List (Nat × List Slot) := [(0, L_laws_toByteA136_3_e0)]
abbrev L_laws_toByteA136_3_rt : List Slot := [.junk, .junk, .junk, .junk, .junk, .junk, .junk, .junk, .junk, .junk, .junk, .junk, .junk, .junk, .junk]

def L_laws_toByteA136_3_b (Φ : Post) (u : (Value × Value × Value)) (N : (Value × Value × Value) → Int → World → Prop) (s : Int) (w : World) : Prop :=
  B_laws_toByteA136_3 u.1 u.2.1 u.2.2 s N (fun v w => ∀ j : Nat → Value, Φ (.exit 0) (mkT j 0 L_laws_toByteA136_3_e0 v) w) w

theorem L_laws_toByteA136_3_eq (j : Nat → Value) (u : (Value × Value × Value)) (s : Int) (N : (Value × Value × Value) → Int → World → Prop) (D0 : (Value × Value × Unit) → World → Prop) (R : (Unit) → World → Prop) (w : World) :
    W Try.prog ty (fun _ _ _ _ => False) (loopAt Try.f45 3) (loopPost L_laws_toByteA136_3_sp [(0, (⟨L_laws_toByteA136_3_e0, D0⟩ : Door))] ⟨L_laws_toByteA136_3_rt, R⟩ (fun v w => N ((fun v => (v.1, v.2.1, v.2.2.1)) v) ((fun v => v.2.2.2.1) v) w)) (mkT j 0 L_laws_toByteA136_3_sp ((fun u s => (u.1, u.2.1, u.2.2, s, ())) u s)) w =
    B_laws_toByteA136_3 u.1 u.2.1 u.2.2 s N D0 w := by
  kernel_rfl

def O_laws_toByteA136_1 : Code → Post → List SV → World → Prop :=
  orc 3 (loopAt Try.f45 3) L_laws_toByteA136_3_sp (fun Φ fr w => LOOP (U := (Value × Value × Value)) (S := Int) ((fun v => (v.1, v.2.1, v.2.2.1)) (extT L_laws_toByteA136_3_sp fr)) (L_laws_toByteA136_3_b Φ ((fun v => (v.1, v.2.1, v.2.2.1)) (extT L_laws_toByteA136_3_sp fr))) ((fun v => v.2.2.2.1) (extT L_laws_toByteA136_3_sp fr)) w) (fun _ _ _ _ => False)

theorem O_laws_toByteA136_1_ok : Sound Try.prog O_laws_toByteA136_1 :=
  orc_ok (sound_none _) fun Φ fr w hs h => loop_ok (ty := ty) follows (sound_none _) L_laws_toByteA136_3_sp (fun v => (v.1, v.2.1, v.2.2.1)) (fun v => v.2.2.2.1) (fun u s => (u.1, u.2.1, u.2.2, s, ())) (fun _ => rfl) L_laws_toByteA136_3_ex L_laws_toByteA136_3_rt (body := L_laws_toByteA136_3_b Φ) (fun j u s w N hb => by
    have e := L_laws_toByteA136_3_eq j u s N (doorOf Φ (.exit 0) L_laws_toByteA136_3_e0).D (doorOf Φ .ret L_laws_toByteA136_3_rt).D w
    exact Eq.mpr e hb) hs h

def V_laws_toByteA136 (a0 : Value) (w : World) (K : Value → World → Prop) : Prop :=
  (Pr Try.prog (Instr.box 22 a0) w (.one .any) fun (a1_2 : Value) w_1 => (Pr Try.prog (Instr.alloc 22 true (.tuple #[])) w_1 (.one .any) fun (x2_4 : Value) w_3 => (Pr Try.prog (Instr.alloc 22 true (.tuple #[])) w_3 (.one .any) fun (out3_6 : Value) w_5 => (At (loopAt Try.f45 3) (loopAt Try.f45 3) (LOOP (U := (Value × Value × Value)) (S := Int) ((a1_2 : Value), (x2_4 : Value), (out3_6 : Value)) (fun N_19 s_20 w_21 => B_laws_toByteA136_3 (a1_2 : Value) (x2_4 : Value) (out3_6 : Value) s_20 N_19 (fun (v_12 : (Value × Value × Unit)) w_13 => ∀ _j_14 : Nat → Value, (QSub Try.prog (Instr.loadAt 22 v_12.2.1) w_13 .any fun (x14_15 : Value) => (PrU Try.prog (Instr.storeAt 22 v_12.1 x14_15) w_13 fun w_16 => (QSub Try.prog (Instr.loadAt 22 v_12.1) w_16 .any fun (r_18 : Value) => K (r_18 : Value) w_16)))) w_21) (0 : Int) w_5)))))

theorem eq_laws_toByteA136 (a0 : Value) (w : World) (K : Value → World → Prop) :
    W Try.prog ty O_laws_toByteA136_1 (bodyOf Try.f45) (fnPost Try.prog Try.f45.results.toList (.one .any) K) (frame0 [a0] 15) w = V_laws_toByteA136 a0 w K := by
  kernel_rfl

theorem body_laws_toByteA136 : Try.f45.body = some (bodyOf Try.f45) := by kernel_rfl
theorem name_laws_toByteA136 : (Try.f45.name == "runtime.NumGoroutine") = false := by kernel_rfl

theorem walk_laws_toByteA136 (a0 : Value) {w : World} {K : Value → World → Prop} (h : V_laws_toByteA136 a0 w K) : Fc Try.prog 45 #[a0] w (.one .any) K :=
  fn_ok follows O_laws_toByteA136_1_ok Try.func45 name_laws_toByteA136 body_laws_toByteA136 Try.ntmps45 [a0] (Eq.mpr (eq_laws_toByteA136 a0 w K) h)

-- uses S1Col
theorem c_laws_toByteA136 {es : List Int} {w : World} {K : Value → World → Prop} (h : es.length = 136) (hK : ∀ w', Below w.heap.size w w' → K (.agg (es.map (Value.int .u8)).toArray) w') :
    Fc Try.prog F_laws_toByteA136 #[.agg (es.map (Value.int .u8)).toArray] w (.one .any) K := by
  have hl : (es.map (Value.int .u8)).length = zA.length := by simp [h, zA]
  have one : ∀ v ∈ es.map (Value.int .u8), v.oneCell' = true := fun v hv => by
    obtain ⟨e, _, rfl⟩ := List.mem_map.1 hv; rfl
  refine walk_laws_toByteA136 _ ?_
  refine box (es.map (Value.int .u8)) rfl fun b1 w1 n1 => allocA yA fun b2 w2 n2 => allocA yA fun b3 w3 n3 => ?_
  have r1 : Row w3 (ptr b1 0) (es.map (Value.int .u8)) := ((row_all n1.at_).keep n2.below).keep n3.below
  have hlt1 := at_lt n1.at_
  have hb0 : Below w.heap.size w w3 := (n1.below.trans (n2.below.mono n1.below.size)).trans (n3.below.mono (n1.below.trans (n2.below.mono n1.below.size)).size)
  have e1 := n1.here; have e2 := n2.here; have e3 := n3.here; have s1 := n1.size; have s2 := n2.size
  refine lp (fun i w' => 0 ≤ i ∧ i ≤ 136 ∧ Mod [b3] w3 w' ∧ Blk w' b3 ((es.map (Value.int .u8)).take i.toNat ++ zA.drop i.toNat) tA) (fun i _ => (136 - i).toNat)
    ⟨by omega, by omega, Mod.refl _ _, by simpa using n3.at_⟩ ?_
  rintro i w' N ⟨h0, hi, hm, hblk⟩ hN
  have r1' : Row w' (ptr b1 0) (es.map (Value.int .u8)) := r1.mod hm (by simp; omega)
  unfold B_laws_toByteA136_3
  refine ⟨fun hlt => ?_, fun hge => ?_⟩
  · have hlt := of_decide_eq_true hlt
    have hie : i.toNat < es.length := by omega
    refine ixR yR r1'.isPtr h0 hlt (ld (x := es[i.toNat]) yB (by rw [Nat.mul_one]; exact r1'.get _ (by simp [hie])) ?_)
    refine ixRp yR h0 hlt ?_
    have hlen : ((es.map (Value.int .u8)).take i.toNat ++ zA.drop i.toNat).length = 136 := by simp [h, zA]; omega
    refine st yB hblk (by omega) rfl fun w'' m hs hb => ?_
    rw [Nat.zero_add] at hb
    rw [wrap_small (by omega) (by omega)]
    refine hN _ _ ⟨by omega, by omega, hm.trans m, ?_⟩ (by omega)
    have this := fill_step (xs := es.map (Value.int .u8)) (zs := zA) (i := i.toNat) (by simpa using hie) hl
    rw [List.getElem_map] at this
    rw [show (i + 1).toNat = i.toNat + 1 from by omega, ← this]
    exact hb
  · have hge := of_decide_eq_false hge
    have hi136 : i = 136 := by omega
    subst hi136
    intro _
    have hfull : (es.map (Value.int .u8)).take (136 : Int).toNat ++ zA.drop (136 : Int).toNat = es.map (Value.int .u8) := by
      rw [show (136 : Int).toNat = 136 from rfl, List.take_of_length_le (by simp [h]), List.drop_of_length_le (by simp [zA])]
      simp
    rw [hfull] at hblk
    refine ldA yA hl (blk_row hblk) ?_
    have a2 : Blk w' b2 zA tA := hm.at_ (n3.mod.at_ n2.at_ (by simp)) (by simp; omega)
    refine stA0 yA a2 hl hl one fun w'' m hs hb => ?_
    refine ldA yA hl (blk_row hb) ?_
    refine hK w'' ?_
    have s0 := hb0.size
    have s4 := hm.size
    exact (hb0.trans (hm.below (by omega) (by simp; omega))).trans (m.below (by omega) (by simp; omega))

end Go.Proofs.Ytkadckhealbdaaa
