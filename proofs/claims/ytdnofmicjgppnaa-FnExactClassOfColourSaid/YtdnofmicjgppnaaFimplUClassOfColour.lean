/- The reading of impl_ClassOfColour, and its contract. No condition. -/
import Derived.Test.YtdnofmicjgppnaaTy
import Derived.Test.YtdnofmicjgppnaaS4Class
import Derived.Test.YtdnofmicjgppnaaFimplUin
import Derived.Test.YtdnofmicjgppnaaFimplUisPart
namespace Go.Proofs.Ytdnofmicjgppnaa
open Go Go.RowKit Eng Mem
set_option linter.unusedVariables false
set_option maxRecDepth 100000
def B_impl_ClassOfColour_5 (c2 : Int) (x23 : Value) (x24 : Int) (out8 : Value) (x25 : Int) (N : (Int × Value × Int) → (Value × Int) → World → Prop) (D0 : (Value × Unit) → World → Prop) (w : World) : Prop :=
  (((decide (x25 < x24)) = true → (QAll Try.prog (Instr.indexAt 22 x23 (.int .i64 x25)) .any fun (x28_8 : Value) => (QSub Try.prog (Instr.loadAt 2 x28_8) w (.int .i64) fun (x29_9 : Int) => (((x29_9 == c2) = true → (Pr Try.prog (Instr.buildSlice 22 1 #[(0, (.int .i64 (IntKind.i64.wrap (x25 + (1 : Int)))))]) w (.one .any) fun (x36_11 : Value) w_10 => (Pr Try.prog (Builtin.append_ #[22, 22] 22 #[out8, x36_11]) w_10 (.one .any) fun (x37_13 : Value) w_12 => N (c2, (x23 : Value), x24) ((x37_13 : Value), (IntKind.i64.wrap (x25 + (1 : Int)))) w_12))) ∧ ((x29_9 == c2) = false → N (c2, (x23 : Value), x24) ((out8 : Value), (IntKind.i64.wrap (x25 + (1 : Int)))) w))))) ∧ ((decide (x25 < x24)) = false → D0 ((out8 : Value), ()) w))

abbrev L_impl_ClassOfColour_5_e0 : List Slot := [.junk, .junk, .junk, .junk, .junk, .junk, .junk, .junk, .k .any, .junk, .junk, .junk, .junk, .junk, .junk, .junk, .junk, .junk, .junk, .junk, .junk, .junk, .junk, .junk, .junk, .junk, .junk, .junk, .junk, .junk, .junk, .junk, .junk, .junk, .junk, .junk, .junk, .junk, .junk, .junk]

abbrev L_impl_ClassOfColour_5_sp : List Slot := [.junk, .junk, .k (.int .i64), .junk, .junk, .junk, .junk, .junk, .k .any, .junk, .junk, .junk, .junk, .junk, .junk, .junk, .junk, .junk, .junk, .junk, .junk, .junk, .junk, .k .any, .k (.int .i64), .k (.int .i64), .junk, .junk, .junk, .junk, .junk, .junk, .junk, .junk, .junk, .junk, .junk, .junk, .junk, .junk]
abbrev L_impl_ClassOfColour_5_ex : List (Nat × List Slot) := [(0, L_impl_ClassOfColour_5_e0)]
abbrev L_impl_ClassOfColour_5_rt : List Slot := [.junk, .junk, .junk, .junk, .junk, .junk, .junk, .junk, .junk, .junk, .junk, .junk, .junk, .junk, .junk, .junk, .junk, .junk, .junk, .junk, .junk, .junk, .junk, .junk, .junk, .junk, .junk, .junk, .junk, .junk, .junk, .junk, .junk, .junk, .junk, .junk, .junk, .junk, .junk, .junk]

def L_impl_ClassOfColour_5_b (Φ : Post) (u : (Int × Value × Int)) (N : (Int × Value × Int) → (Value × Int) → World → Prop) (s : (Value × Int)) (w : World) : Prop :=
  B_impl_ClassOfColour_5 u.1 u.2.1 u.2.2 s.1 s.2 N (fun v w => ∀ j : Nat → Value, Φ (.exit 0) (mkT j 0 L_impl_ClassOfColour_5_e0 v) w) w

theorem L_impl_ClassOfColour_5_eq (j : Nat → Value) (u : (Int × Value × Int)) (s : (Value × Int)) (N : (Int × Value × Int) → (Value × Int) → World → Prop) (D0 : (Value × Unit) → World → Prop) (R : (Unit) → World → Prop) (w : World) :
    W Try.prog ty (fun _ _ _ _ => False) (loopAt Try.f16 5) (loopPost L_impl_ClassOfColour_5_sp [(0, (⟨L_impl_ClassOfColour_5_e0, D0⟩ : Door))] ⟨L_impl_ClassOfColour_5_rt, R⟩ (fun v w => N ((fun v => (v.1, v.2.2.1, v.2.2.2.1)) v) ((fun v => (v.2.1, v.2.2.2.2.1)) v) w)) (mkT j 0 L_impl_ClassOfColour_5_sp ((fun u s => (u.1, s.1, u.2.1, u.2.2, s.2, ())) u s)) w =
    B_impl_ClassOfColour_5 u.1 u.2.1 u.2.2 s.1 s.2 N D0 w := by
  kernel_rfl

def O_impl_ClassOfColour_1 : Code → Post → List SV → World → Prop :=
  orc 5 (loopAt Try.f16 5) L_impl_ClassOfColour_5_sp (fun Φ fr w => LOOP (U := (Int × Value × Int)) (S := (Value × Int)) ((fun v => (v.1, v.2.2.1, v.2.2.2.1)) (extT L_impl_ClassOfColour_5_sp fr)) (L_impl_ClassOfColour_5_b Φ ((fun v => (v.1, v.2.2.1, v.2.2.2.1)) (extT L_impl_ClassOfColour_5_sp fr))) ((fun v => (v.2.1, v.2.2.2.2.1)) (extT L_impl_ClassOfColour_5_sp fr)) w) (fun _ _ _ _ => False)

theorem O_impl_ClassOfColour_1_ok : Sound Try.prog O_impl_ClassOfColour_1 :=
  orc_ok (sound_none _) fun Φ fr w hs h => loop_ok (ty := ty) follows (sound_none _) L_impl_ClassOfColour_5_sp (fun v => (v.1, v.2.2.1, v.2.2.2.1)) (fun v => (v.2.1, v.2.2.2.2.1)) (fun u s => (u.1, s.1, u.2.1, u.2.2, s.2, ())) (fun _ => rfl) L_impl_ClassOfColour_5_ex L_impl_ClassOfColour_5_rt (body := L_impl_ClassOfColour_5_b Φ) (fun j u s w N hb => by
    have e := L_impl_ClassOfColour_5_eq j u s N (doorOf Φ (.exit 0) L_impl_ClassOfColour_5_e0).D (doorOf Φ .ret L_impl_ClassOfColour_5_rt).D w
    exact Eq.mpr e hb) hs h

def V_impl_ClassOfColour (k0 : Int) (part1 : Value) (c2 : Int) (w : World) (K : (Value × Int) → World → Prop) : Prop :=
  (Fc Try.prog 44 #[(.int .i64 k0), part1] w (.one .bool) fun (x13_2 : Bool) w_1 => (((!x13_2) = true → K (((.slice none 0 0) : Value), (2 : Int)) w_1) ∧ ((!x13_2) = false → (Fc Try.prog 45 #[(.int .i64 c2), (.int .i64 (0 : Int)), (.int .i64 (IntKind.i64.wrap (k0 - (1 : Int))))] w_1 (.one .bool) fun (x19_4 : Bool) w_3 => (((!x19_4) = true → K (((.slice none 0 0) : Value), (2 : Int)) w_3) ∧ ((!x19_4) = false → (Pr Try.prog (Instr.buildSlice 22 0 #[]) w_3 (.one .any) fun (x22_6 : Value) w_5 => (QAll Try.prog (Builtin.len_ #[22] 3 #[part1]) (.int .i64) fun (x24_7 : Int) => (At (loopAt Try.f16 5) (loopAt Try.f16 5) (LOOP (U := (Int × Value × Int)) (S := (Value × Int)) (c2, (part1 : Value), x24_7) (fun N_17 s_18 w_19 => B_impl_ClassOfColour_5 c2 (part1 : Value) x24_7 s_18.1 s_18.2 N_17 (fun (v_14 : (Value × Unit)) w_15 => ∀ _j_16 : Nat → Value, K ((v_14.1 : Value), (0 : Int)) w_15) w_19) ((x22_6 : Value), (0 : Int)) w_5))))))))))

theorem eq_impl_ClassOfColour (k0 : Int) (part1 : Value) (c2 : Int) (w : World) (K : (Value × Int) → World → Prop) :
    W Try.prog ty O_impl_ClassOfColour_1 (bodyOf Try.f16) (fnPost Try.prog Try.f16.results.toList (.two .any (.int .i64)) K) (frame0 [(.int .i64 k0), part1, (.int .i64 c2)] 40) w = V_impl_ClassOfColour k0 part1 c2 w K := by
  kernel_rfl

theorem body_impl_ClassOfColour : Try.f16.body = some (bodyOf Try.f16) := by kernel_rfl
theorem name_impl_ClassOfColour : (Try.f16.name == "runtime.NumGoroutine") = false := by kernel_rfl

theorem walk_impl_ClassOfColour (k0 : Int) (part1 : Value) (c2 : Int) {w : World} {K : (Value × Int) → World → Prop} (h : V_impl_ClassOfColour k0 part1 c2 w K) : Fc Try.prog 16 #[(.int .i64 k0), part1, (.int .i64 c2)] w (.two .any (.int .i64)) K :=
  fn_ok follows O_impl_ClassOfColour_1_ok Try.func16 name_impl_ClassOfColour body_impl_ClassOfColour Try.ntmps16 [(.int .i64 k0), part1, (.int .i64 c2)] (Eq.mpr (eq_impl_ClassOfColour k0 part1 c2 w K) h)

-- uses S4Class
theorem c_impl_ClassOfColour {k c : Int} {a : Value} {l : List Int} {w : World} {K : Value × Int → World → Prop} (_ : I64 k) (ha : ArgI w a l) (_ : I64 c)
    (hK : ∀ w' v, Below w.heap.size w w' → MyI w.heap.size w'.heap.size w' v (classOf k l c).1 → K (v, (classOf k l c).2) w') :
    Fc Try.prog F_impl_ClassOfColour #[.int .i64 k, a, .int .i64 c] w (.two .any (.int .i64)) K := by
  have h := ha.sl
  have no : ¬ (IsPart k l ∧ 0 ≤ c ∧ c ≤ k - 1) → ∀ w0, Below w.heap.size w w0 → K (.slice none 0 0, 2) w0 := fun hn w0 hw0 => by
    have := hK w0 (.slice none 0 0) hw0; rw [classOf, if_neg hn] at this; exact this (myI_nil _ _ _)
  refine walk_impl_ClassOfColour _ _ _ (c_impl_isPart h fun w0 hw0 => ?_)
  have h0 := h
  replace h := h.keep hw0
  by_cases hp : IsPart k l
  · rw [decide_eq_true hp]
    refine ⟨fun h => Bool.noConfusion h, fun _ => ?_⟩
    rw [wrap_small (by have := hp.1; omega) (by have := hp.2.1; omega)]
    refine c_impl_in _ _ _ ⟨fun hn => no (fun hh => notd_t hn hh.2) _ hw0, fun hy => ?_⟩
    have hy := notd_f hy
    have hlen := hp.2.2.1
    have hz0 := hw0.size
    refine nilI fun b v w1 hb hbel ho => lenI (h.keep hbel) ?_
    refine lp (fun s w' => 0 ≤ s.2 ∧ s.2 ≤ l.length ∧ Below w.heap.size w w' ∧ ∃ b, w.heap.size ≤ b ∧ OwnI w' b s.1 (posOf c l s.2.toNat)) (fun s _ => (l.length - s.2).toNat)
      ⟨by simp, by simp, hw0.trans (hbel.mono hw0.size), b, by omega, ho⟩ ?_
    rintro ⟨v, i⟩ w' N ⟨i0, i1, hb, b', hb', hO⟩ hN
    simp only at i0 i1 hO
    unfold B_impl_ClassOfColour_5
    have h' := h0.keep hb
    refine ⟨fun hlt => ?_, fun hge => ?_⟩
    · have hlt := dec_t hlt
      simp only at hlt
      have hs := posOf_succ c l i.toNat
      have hs0 := hb.size
      refine atI h' i0 hlt ⟨fun he => ?_, fun hne => ?_⟩
      · have he := eq_t he
        simp only
        rw [wrap_small (by omega) (by omega)]
        refine appI hO (by have := posOf_len c l i.toNat; omega) fun v' w2 b2 o m hb2 => ?_
        refine hN _ _ ⟨by simp; omega, by simp; omega, hb.trans ((m.below (B := w.heap.size) (by omega) (by simp; omega)).mono (by omega)), b2, by omega, ?_⟩ (by simp; omega)
        simp only
        rw [show (i + 1).toNat = i.toNat + 1 from by omega, hs, if_pos he, show ((i.toNat : Int) + 1) = i + 1 from by omega]
        exact o
      · have hne := eq_f hne
        simp only
        rw [wrap_small (by omega) (by omega)]
        refine hN _ _ ⟨by simp; omega, by simp; omega, hb, b', hb', ?_⟩ (by simp; omega)
        simp only
        rw [show (i + 1).toNat = i.toNat + 1 from by omega, hs, if_neg hne, List.append_nil]
        exact hO
    · have hge := dec_f hge
      simp only at hge
      intro _
      have : i = l.length := by omega
      subst this
      have := hK w' v hb
      rw [classOf, if_pos ⟨hp, hy⟩] at this
      exact this (own_my (by simpa using hO) (by have := posOf_len c l l.length; show (posOf c l l.length).length ≤ _; omega) hb' hO.lt)
  · rw [decide_eq_false hp]
    exact ⟨fun _ => no (fun hh => hp hh.1) _ hw0, fun h => Bool.noConfusion h⟩

end Go.Proofs.Ytdnofmicjgppnaa
