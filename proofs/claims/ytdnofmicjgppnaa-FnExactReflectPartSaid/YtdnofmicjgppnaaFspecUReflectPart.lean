/- The reading of spec_ReflectPart, and its contract. No condition. -/
import Derived.Test.YtdnofmicjgppnaaTy
import Derived.Test.YtdnofmicjgppnaaS7Refl
import Derived.Test.YtdnofmicjgppnaaFspecUl07Code
namespace Go.Proofs.Ytdnofmicjgppnaa
open Go Go.RowKit Eng Mem
set_option linter.unusedVariables false
set_option maxRecDepth 100000
def B_spec_ReflectPart_6 (part1 : Value) (out7 : Value) (i8 : Int) (N : Value → (Value × Int) → World → Prop) (D0 : (Value × Unit) → World → Prop) (w : World) : Prop :=
  (((decide (i8 ≥ (0 : Int))) = true → (QAll Try.prog (Instr.indexAt 22 part1 (.int .i64 i8)) .any fun (x26_6 : Value) => (QSub Try.prog (Instr.loadAt 2 x26_6) w (.int .i64) fun (x27_7 : Int) => (Pr Try.prog (Instr.buildSlice 22 1 #[(0, (.int .i64 x27_7))]) w (.one .any) fun (x28_9 : Value) w_8 => (Pr Try.prog (Builtin.append_ #[22, 22] 22 #[out7, x28_9]) w_8 (.one .any) fun (x29_11 : Value) w_10 => N (part1 : Value) ((x29_11 : Value), (IntKind.i64.wrap (i8 - (1 : Int)))) w_10))))) ∧ ((decide (i8 ≥ (0 : Int))) = false → D0 ((out7 : Value), ()) w))

abbrev L_spec_ReflectPart_6_e0 : List Slot := [.junk, .junk, .junk, .junk, .junk, .junk, .junk, .k .any, .junk, .junk, .junk, .junk, .junk, .junk, .junk, .junk, .junk, .junk, .junk, .junk, .junk, .junk, .junk, .junk, .junk, .junk, .junk, .junk, .junk, .junk, .junk]

abbrev L_spec_ReflectPart_6_sp : List Slot := [.junk, .k .any, .junk, .junk, .junk, .junk, .junk, .k .any, .k (.int .i64), .junk, .junk, .junk, .junk, .junk, .junk, .junk, .junk, .junk, .junk, .junk, .junk, .junk, .junk, .junk, .junk, .junk, .junk, .junk, .junk, .junk, .junk]
abbrev L_spec_ReflectPart_6_ex : List (Nat × List Slot) := [(0, L_spec_ReflectPart_6_e0)]
abbrev L_spec_ReflectPart_6_rt : List Slot := [.junk, .junk, .junk, .junk, .junk, .junk, .junk, .junk, .junk, .junk, .junk, .junk, .junk, .junk, .junk, .junk, .junk, .junk, .junk, .junk, .junk, .junk, .junk, .junk, .junk, .junk, .junk, .junk, .junk, .junk, .junk]

def L_spec_ReflectPart_6_b (Φ : Post) (u : Value) (N : Value → (Value × Int) → World → Prop) (s : (Value × Int)) (w : World) : Prop :=
  B_spec_ReflectPart_6 u s.1 s.2 N (fun v w => ∀ j : Nat → Value, Φ (.exit 0) (mkT j 0 L_spec_ReflectPart_6_e0 v) w) w

theorem L_spec_ReflectPart_6_eq (j : Nat → Value) (u : Value) (s : (Value × Int)) (N : Value → (Value × Int) → World → Prop) (D0 : (Value × Unit) → World → Prop) (R : (Unit) → World → Prop) (w : World) :
    W Try.prog ty (fun _ _ _ _ => False) (loopAt Try.f25 6) (loopPost L_spec_ReflectPart_6_sp [(0, (⟨L_spec_ReflectPart_6_e0, D0⟩ : Door))] ⟨L_spec_ReflectPart_6_rt, R⟩ (fun v w => N ((fun v => v.1) v) ((fun v => (v.2.1, v.2.2.1)) v) w)) (mkT j 0 L_spec_ReflectPart_6_sp ((fun u s => (u, s.1, s.2, ())) u s)) w =
    B_spec_ReflectPart_6 u s.1 s.2 N D0 w := by
  kernel_rfl

def O_spec_ReflectPart_1 : Code → Post → List SV → World → Prop :=
  orc 6 (loopAt Try.f25 6) L_spec_ReflectPart_6_sp (fun Φ fr w => LOOP (U := Value) (S := (Value × Int)) ((fun v => v.1) (extT L_spec_ReflectPart_6_sp fr)) (L_spec_ReflectPart_6_b Φ ((fun v => v.1) (extT L_spec_ReflectPart_6_sp fr))) ((fun v => (v.2.1, v.2.2.1)) (extT L_spec_ReflectPart_6_sp fr)) w) (fun _ _ _ _ => False)

theorem O_spec_ReflectPart_1_ok : Sound Try.prog O_spec_ReflectPart_1 :=
  orc_ok (sound_none _) fun Φ fr w hs h => loop_ok (ty := ty) follows (sound_none _) L_spec_ReflectPart_6_sp (fun v => v.1) (fun v => (v.2.1, v.2.2.1)) (fun u s => (u, s.1, s.2, ())) (fun _ => rfl) L_spec_ReflectPart_6_ex L_spec_ReflectPart_6_rt (body := L_spec_ReflectPart_6_b Φ) (fun j u s w N hb => by
    have e := L_spec_ReflectPart_6_eq j u s N (doorOf Φ (.exit 0) L_spec_ReflectPart_6_e0).D (doorOf Φ .ret L_spec_ReflectPart_6_rt).D w
    exact Eq.mpr e hb) hs h

def V_spec_ReflectPart (k0 : Int) (part1 : Value) (w : World) (K : (Value × Int) → World → Prop) : Prop :=
  (Fc Try.prog 42 #[(.int .i64 k0), part1, (.int .i64 (0 : Int))] w (.one (.int .i64)) fun (x11_2 : Int) w_1 => (((x11_2 != (0 : Int)) = true → K (((.slice none 0 0) : Value), x11_2) w_1) ∧ ((x11_2 != (0 : Int)) = false → (Pr Try.prog (Instr.buildSlice 22 0 #[]) w_1 (.one .any) fun (x15_4 : Value) w_3 => (QAll Try.prog (Builtin.len_ #[22] 3 #[part1]) (.int .i64) fun (x17_5 : Int) => (At (loopAt Try.f25 6) (loopAt Try.f25 6) (LOOP (U := Value) (S := (Value × Int)) (part1 : Value) (fun N_15 s_16 w_17 => B_spec_ReflectPart_6 (part1 : Value) s_16.1 s_16.2 N_15 (fun (v_12 : (Value × Unit)) w_13 => ∀ _j_14 : Nat → Value, K ((v_12.1 : Value), (0 : Int)) w_13) w_17) ((x15_4 : Value), (IntKind.i64.wrap (x17_5 - (1 : Int)))) w_3)))))))

theorem eq_spec_ReflectPart (k0 : Int) (part1 : Value) (w : World) (K : (Value × Int) → World → Prop) :
    W Try.prog ty O_spec_ReflectPart_1 (bodyOf Try.f25) (fnPost Try.prog Try.f25.results.toList (.two .any (.int .i64)) K) (frame0 [(.int .i64 k0), part1] 31) w = V_spec_ReflectPart k0 part1 w K := by
  kernel_rfl

theorem body_spec_ReflectPart : Try.f25.body = some (bodyOf Try.f25) := by kernel_rfl
theorem name_spec_ReflectPart : (Try.f25.name == "runtime.NumGoroutine") = false := by kernel_rfl

theorem walk_spec_ReflectPart (k0 : Int) (part1 : Value) {w : World} {K : (Value × Int) → World → Prop} (h : V_spec_ReflectPart k0 part1 w K) : Fc Try.prog 25 #[(.int .i64 k0), part1] w (.two .any (.int .i64)) K :=
  fn_ok follows O_spec_ReflectPart_1_ok Try.func25 name_spec_ReflectPart body_spec_ReflectPart Try.ntmps25 [(.int .i64 k0), part1] (Eq.mpr (eq_spec_ReflectPart k0 part1 w K) h)

-- uses S7Refl
theorem c_spec_ReflectPart {k : Int} {a : Value} {l : List Int} {w : World} {K : Value × Int → World → Prop} (_ : I64 k) (ha : ArgI w a l)
    (hK : ∀ w' v, Below w.heap.size w w' → MyI w.heap.size w'.heap.size w' v (reflOf k l).1 → K (v, (reflOf k l).2) w') : Fc Try.prog F_spec_ReflectPart #[.int .i64 k, a] w (.two .any (.int .i64)) K := by
  have h := ha.sl
  unfold reflOf at hK
  refine walk_spec_ReflectPart _ _ (c_spec_l07Code h ?_)
  by_cases hp : IsPart k l
  · rw [if_pos ⟨hp, by omega, by omega⟩]
    rw [if_pos hp] at hK
    have hlen := hp.2.2.1
    refine ⟨fun h => absurd rfl (ne_t h), fun _ => nilI fun b v w1 hb hbel ho => lenI (h.keep hbel) ?_⟩
    rw [wrap_small (by omega) (by omega)]
    refine lp (fun s w' => -1 ≤ s.2 ∧ s.2 < l.length ∧ Below w.heap.size w w' ∧ ∃ b, w.heap.size ≤ b ∧ OwnI w' b s.1 (l.reverse.take (l.length - 1 - s.2).toNat)) (fun s _ => (s.2 + 1).toNat)
      ⟨by simp; omega, by simp; omega, hbel, b, by omega, by simpa using ho⟩ ?_
    rintro ⟨v, i⟩ w' N ⟨i0, i1, hb, b', hb', hO⟩ hN
    simp only at i0 i1 hO
    unfold B_spec_ReflectPart_6
    refine ⟨fun hge => ?_, fun hlt => ?_⟩
    · have hge := dec_t hge
      simp only at hge
      have hs0 := hb.size
      refine atI (h.keep hb) (by omega) i1 (appI hO (by simp; omega) fun v' w2 b2 o m hb2 => ?_)
      simp only
      rw [wrap_small (by omega) (by omega)]
      refine hN _ _ ⟨by simp; omega, by simp; omega, hb.trans (m.below (by omega) (by simp; omega)), b2, by omega, ?_⟩ (by simp; omega)
      simp only
      have e : l.reverse.take (l.length - 1 - (i - 1)).toNat = l.reverse.take (l.length - 1 - i).toNat ++ [l.getD i.toNat 0] := by
        rw [show (l.length - 1 - (i - 1) : Int).toNat = (l.length - 1 - i : Int).toNat + 1 from by omega, List.take_add_one]
        congr 1
        rw [List.getElem?_reverse (by omega), show l.length - 1 - (l.length - 1 - i : Int).toNat = i.toNat from by omega]
        simp [List.getD, show i.toNat < l.length from by omega]
      rw [e]
      exact o
    · have hlt := dec_f hlt
      simp only at hlt
      have : i = -1 := by omega
      subst this
      intro _
      have e : l.reverse.take (l.length - 1 - (-1) : Int).toNat = l.reverse := List.take_of_length_le (by simp)
      rw [e] at hO
      exact hK w' v hb (own_my hO (by simp; omega) hb' hO.lt)
  · rw [if_neg (fun hh => hp hh.1)]
    rw [if_neg hp] at hK
    exact ⟨fun _ => hK w _ (Below.refl _ _) (myI_nil _ _ _), fun h => absurd (ne_f h) (by omega)⟩

end Go.Proofs.Ytdnofmicjgppnaa
