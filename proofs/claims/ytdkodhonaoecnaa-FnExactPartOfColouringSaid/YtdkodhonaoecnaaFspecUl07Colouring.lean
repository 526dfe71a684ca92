/- The reading of spec_l07Colouring, and its contract. No condition. -/
import Derived.Test.YtdkodhonaoecnaaTy
import Derived.Test.YtdkodhonaoecnaaS6Tri
import Derived.Test.YtdkodhonaoecnaaFspecUl01Edge
namespace Go.Proofs.Ytdkodhonaoecnaa
open Go Go.RowKit Eng Mem
set_option linter.unusedVariables false
set_option maxRecDepth 100000
def B_spec_l07Colouring_6 (part1 : Value) (x4 : Value) (out5 : Value) (j6 : Int) (i7 : Int) (N : (Value × Value × Value × Int) → Int → World → Prop) (D2 : (Value × Value × Value × Int × Unit) → World → Prop) (w : World) : Prop :=
  (((decide (i7 < j6)) = true → (∀ w_12, Drew w w_12 → (QAll Try.prog (Instr.indexAt 25 part1 (.int .i64 (IntKind.i64.wrap ((IntKind.i64.wrap (j6 - i7)) - (1 : Int))))) .any fun (x32_13 : Value) => (QSub Try.prog (Instr.loadAt 2 x32_13) w_12 (.int .i64) fun (x33_14 : Int) => (QAll Try.prog (convert 2 5 (.int .i64 x33_14)) (.int .u8) fun (x34_15 : Int) => (QAll Try.prog (Instr.fieldAt 28 out5 2) .any fun (x35_16 : Value) => (Fc Try.prog 66 #[(.int .i64 i7), (.int .i64 j6)] w_12 (.one (.int .i64)) fun (x26_18 : Int) w_17 => (Keeps w_12 w_17 ((QAll Try.prog (Instr.indexAt 26 x35_16 (.int .i64 x26_18)) .any fun (x36_19 : Value) => (PrU Try.prog (Instr.storeAt 5 x36_19 (.int .u8 x34_15)) w_17 fun w_20 => N ((part1 : Value), (x4 : Value), (out5 : Value), j6) (IntKind.i64.wrap (i7 + (1 : Int))) w_20))))))))))) ∧ ((decide (i7 < j6)) = false → D2 ((part1 : Value), (x4 : Value), (out5 : Value), j6, ()) w))

abbrev L_spec_l07Colouring_6_e2 : List Slot := [.junk, .k .any, .junk, .junk, .k .any, .k .any, .k (.int .i64), .junk, .junk, .junk, .junk, .junk, .junk, .junk, .junk, .junk, .junk, .junk, .junk, .junk, .junk, .junk, .junk, .junk, .junk, .junk, .junk, .junk, .junk, .junk, .junk, .junk, .junk, .junk, .junk, .junk, .junk, .junk]

abbrev L_spec_l07Colouring_6_sp : List Slot := [.junk, .k .any, .junk, .junk, .k .any, .k .any, .k (.int .i64), .k (.int .i64), .junk, .junk, .junk, .junk, .junk, .junk, .junk, .junk, .junk, .junk, .junk, .junk, .junk, .junk, .junk, .junk, .junk, .junk, .junk, .junk, .junk, .junk, .junk, .junk, .junk, .junk, .junk, .junk, .junk, .junk]
abbrev L_spec_l07Colouring_6_ex : List (Nat × List Slot) := [(2, L_spec_l07Colouring_6_e2)]
abbrev L_spec_l07Colouring_6_rt : List Slot := [.junk, .junk, .junk, .junk, .junk, .junk, .junk, .junk, .junk, .junk, .junk, .junk, .junk, .junk, .junk, .junk, .junk, .junk, .junk, .junk, .junk, .junk, .junk, .junk, .junk, .junk, .junk, .junk, .junk, .junk, .junk, .junk, .junk, .junk, .junk, .junk, .junk, .junk]

def L_spec_l07Colouring_6_b (Φ : Post) (u : (Value × Value × Value × Int)) (N : (Value × Value × Value × Int) → Int → World → Prop) (s : Int) (w : World) : Prop :=
  B_spec_l07Colouring_6 u.1 u.2.1 u.2.2.1 u.2.2.2 s N (fun v w => ∀ j : Nat → Value, Φ (.exit 2) (mkT j 0 L_spec_l07Colouring_6_e2 v) w) w

theorem L_spec_l07Colouring_6_eq (j : Nat → Value) (u : (Value × Value × Value × Int)) (s : Int) (N : (Value × Value × Value × Int) → Int → World → Prop) (D2 : (Value × Value × Value × Int × Unit) → World → Prop) (R : (Unit) → World → Prop) (w : World) :
    W Try.prog ty (fun _ _ _ _ => False) (loopAt Try.f92 6) (loopPost L_spec_l07Colouring_6_sp [(2, (⟨L_spec_l07Colouring_6_e2, D2⟩ : Door))] ⟨L_spec_l07Colouring_6_rt, R⟩ (fun v w => N ((fun v => (v.1, v.2.1, v.2.2.1, v.2.2.2.1)) v) ((fun v => v.2.2.2.2.1) v) w)) (mkT j 0 L_spec_l07Colouring_6_sp ((fun u s => (u.1, u.2.1, u.2.2.1, u.2.2.2, s, ())) u s)) w =
    B_spec_l07Colouring_6 u.1 u.2.1 u.2.2.1 u.2.2.2 s N D2 w := by
  kernel_rfl

def O_spec_l07Colouring_1 : Code → Post → List SV → World → Prop :=
  orc 6 (loopAt Try.f92 6) L_spec_l07Colouring_6_sp (fun Φ fr w => LOOP (U := (Value × Value × Value × Int)) (S := Int) ((fun v => (v.1, v.2.1, v.2.2.1, v.2.2.2.1)) (extT L_spec_l07Colouring_6_sp fr)) (L_spec_l07Colouring_6_b Φ ((fun v => (v.1, v.2.1, v.2.2.1, v.2.2.2.1)) (extT L_spec_l07Colouring_6_sp fr))) ((fun v => v.2.2.2.2.1) (extT L_spec_l07Colouring_6_sp fr)) w) (fun _ _ _ _ => False)

theorem O_spec_l07Colouring_1_ok : Sound Try.prog O_spec_l07Colouring_1 :=
  orc_ok (sound_none _) fun Φ fr w hs h => loop_ok (ty := ty) follows (sound_none _) L_spec_l07Colouring_6_sp (fun v => (v.1, v.2.1, v.2.2.1, v.2.2.2.1)) (fun v => v.2.2.2.2.1) (fun u s => (u.1, u.2.1, u.2.2.1, u.2.2.2, s, ())) (fun _ => rfl) L_spec_l07Colouring_6_ex L_spec_l07Colouring_6_rt (body := L_spec_l07Colouring_6_b Φ) (fun j u s w N hb => by
    have e := L_spec_l07Colouring_6_eq j u s N (doorOf Φ (.exit 2) L_spec_l07Colouring_6_e2).D (doorOf Φ .ret L_spec_l07Colouring_6_rt).D w
    exact Eq.mpr e hb) hs h

def B_spec_l07Colouring_3 (part1 : Value) (x4 : Value) (out5 : Value) (j6 : Int) (N : (Value × Value × Value) → Int → World → Prop) (D0 : (Value × Value × Unit) → World → Prop) (w : World) : Prop :=
  (QAll Try.prog (Instr.fieldAt 28 out5 0) .any fun (x14_10 : Value) => (QSub Try.prog (Instr.loadAt 2 x14_10) w (.int .i64) fun (x15_11 : Int) => (((decide (j6 < x15_11)) = true → (At (loopAt Try.f92 6) (loopAt Try.f92 6) (LOOP (U := (Value × Value × Value × Int)) (S := Int) ((part1 : Value), (x4 : Value), (out5 : Value), j6) (fun N_25 s_26 w_27 => B_spec_l07Colouring_6 (part1 : Value) (x4 : Value) (out5 : Value) j6 s_26 N_25 (fun (v_22 : (Value × Value × Value × Int × Unit)) w_23 => ∀ _j_24 : Nat → Value, N ((v_22.1 : Value), (v_22.2.1 : Value), (v_22.2.2.1 : Value)) (IntKind.i64.wrap (v_22.2.2.2.1 + (1 : Int))) w_23) w_27) (0 : Int) w))) ∧ ((decide (j6 < x15_11)) = false → D0 ((x4 : Value), (out5 : Value), ()) w))))

abbrev L_spec_l07Colouring_3_e0 : List Slot := [.junk, .junk, .junk, .junk, .k .any, .k .any, .junk, .junk, .junk, .junk, .junk, .junk, .junk, .junk, .junk, .junk, .junk, .junk, .junk, .junk, .junk, .junk, .junk, .junk, .junk, .junk, .junk, .junk, .junk, .junk, .junk, .junk, .junk, .junk, .junk, .junk, .junk, .junk]

abbrev L_spec_l07Colouring_3_sp : List Slot := [.junk, .k .any, .junk, .junk, .k .any, .k .any, .k (.int .i64), .junk, .junk, .junk, .junk, .junk, .junk, .junk, .junk, .junk, .junk, .junk, .junk, .junk, .junk, .junk, .junk, .junk, .junk, .junk, .junk, .junk, .junk, .junk, .junk, .junk, .junk, .junk, .junk, .junk, .junk, .junk]
abbrev L_spec_l07Colouring_3_ex : List (Nat × List Slot) := [(0, L_spec_l07Colouring_3_e0)]
abbrev L_spec_l07Colouring_3_rt : List Slot := [.junk, .junk, .junk, .junk, .junk, .junk, .junk, .junk, .junk, .junk, .junk, .junk, .junk, .junk, .junk, .junk, .junk, .junk, .junk, .junk, .junk, .junk, .junk, .junk, .junk, .junk, .junk, .junk, .junk, .junk, .junk, .junk, .junk, .junk, .junk, .junk, .junk, .junk]

def L_spec_l07Colouring_3_b (Φ : Post) (u : (Value × Value × Value)) (N : (Value × Value × Value) → Int → World → Prop) (s : Int) (w : World) : Prop :=
  B_spec_l07Colouring_3 u.1 u.2.1 u.2.2 s N (fun v w => ∀ j : Nat → Value, Φ (.exit 0) (mkT j 0 L_spec_l07Colouring_3_e0 v) w) w

theorem L_spec_l07Colouring_3_eq (j : Nat → Value) (u : (Value × Value × Value)) (s : Int) (N : (Value × Value × Value) → Int → World → Prop) (D0 : (Value × Value × Unit) → World → Prop) (R : (Unit) → World → Prop) (w : World) :
    W Try.prog ty O_spec_l07Colouring_1 (loopAt Try.f92 3) (loopPost L_spec_l07Colouring_3_sp [(0, (⟨L_spec_l07Colouring_3_e0, D0⟩ : Door))] ⟨L_spec_l07Colouring_3_rt, R⟩ (fun v w => N ((fun v => (v.1, v.2.1, v.2.2.1)) v) ((fun v => v.2.2.2.1) v) w)) (mkT j 0 L_spec_l07Colouring_3_sp ((fun u s => (u.1, u.2.1, u.2.2, s, ())) u s)) w =
    B_spec_l07Colouring_3 u.1 u.2.1 u.2.2 s N D0 w := by
  kernel_rfl

def O_spec_l07Colouring_2 : Code → Post → List SV → World → Prop :=
  orc 3 (loopAt Try.f92 3) L_spec_l07Colouring_3_sp (fun Φ fr w => LOOP (U := (Value × Value × Value)) (S := Int) ((fun v => (v.1, v.2.1, v.2.2.1)) (extT L_spec_l07Colouring_3_sp fr)) (L_spec_l07Colouring_3_b Φ ((fun v => (v.1, v.2.1, v.2.2.1)) (extT L_spec_l07Colouring_3_sp fr))) ((fun v => v.2.2.2.1) (extT L_spec_l07Colouring_3_sp fr)) w) O_spec_l07Colouring_1

theorem O_spec_l07Colouring_2_ok : Sound Try.prog O_spec_l07Colouring_2 :=
  orc_ok O_spec_l07Colouring_1_ok fun Φ fr w hs h => loop_ok (ty := ty) follows O_spec_l07Colouring_1_ok L_spec_l07Colouring_3_sp (fun v => (v.1, v.2.1, v.2.2.1)) (fun v => v.2.2.2.1) (fun u s => (u.1, u.2.1, u.2.2, s, ())) (fun _ => rfl) L_spec_l07Colouring_3_ex L_spec_l07Colouring_3_rt (body := L_spec_l07Colouring_3_b Φ) (fun j u s w N hb => by
    have e := L_spec_l07Colouring_3_eq j u s N (doorOf Φ (.exit 0) L_spec_l07Colouring_3_e0).D (doorOf Φ .ret L_spec_l07Colouring_3_rt).D w
    exact Eq.mpr e hb) hs h

def V_spec_l07Colouring (k0 : Int) (part1 : Value) (w : World) (K : Value → World → Prop) : Prop :=
  (Pr Try.prog (Instr.alloc 28 true (.tuple #[])) w (.one .any) fun (x4_2 : Value) w_1 => (QAll Try.prog (Builtin.len_ #[25] 3 #[part1]) (.int .i64) fun (x9_3 : Int) => (Pr Try.prog (Instr.build 28 #[(0, (.int .i64 (IntKind.i64.wrap (x9_3 + (1 : Int))))), (1, (.int .i64 k0))]) w_1 (.one .any) fun (x12_5 : Value) w_4 => (Pr Try.prog (Instr.alloc 28 true (.tuple #[])) w_4 (.one .any) fun (out5_7 : Value) w_6 => (PrU Try.prog (Instr.storeAt 28 out5_7 x12_5) w_6 fun w_8 => (At (loopAt Try.f92 3) (loopAt Try.f92 3) (LOOP (U := (Value × Value × Value)) (S := Int) ((part1 : Value), (x4_2 : Value), (out5_7 : Value)) (fun N_35 s_36 w_37 => B_spec_l07Colouring_3 (part1 : Value) (x4_2 : Value) (out5_7 : Value) s_36 N_35 (fun (v_28 : (Value × Value × Unit)) w_29 => ∀ _j_30 : Nat → Value, (QSub Try.prog (Instr.loadAt 28 v_28.2.1) w_29 .any fun (x37_31 : Value) => (PrU Try.prog (Instr.storeAt 28 v_28.1 x37_31) w_29 fun w_32 => (QSub Try.prog (Instr.loadAt 28 v_28.1) w_32 .any fun (r_34 : Value) => K (r_34 : Value) w_32)))) w_37) (1 : Int) w_8)))))))

theorem eq_spec_l07Colouring (k0 : Int) (part1 : Value) (w : World) (K : Value → World → Prop) :
    W Try.prog ty O_spec_l07Colouring_2 (bodyOf Try.f92) (fnPost Try.prog Try.f92.results.toList (.one .any) K) (frame0 [(.int .i64 k0), part1] 38) w = V_spec_l07Colouring k0 part1 w K := by
  kernel_rfl

theorem body_spec_l07Colouring : Try.f92.body = some (bodyOf Try.f92) := by kernel_rfl
theorem name_spec_l07Colouring : (Try.f92.name == "runtime.NumGoroutine") = false := by kernel_rfl

theorem walk_spec_l07Colouring (k0 : Int) (part1 : Value) {w : World} {K : Value → World → Prop} (h : V_spec_l07Colouring k0 part1 w K) : Fc Try.prog 92 #[(.int .i64 k0), part1] w (.one .any) K :=
  fn_ok follows O_spec_l07Colouring_2_ok Try.func92 name_spec_l07Colouring body_spec_l07Colouring Try.ntmps92 [(.int .i64 k0), part1] (Eq.mpr (eq_spec_l07Colouring k0 part1 w K) h)

-- uses S6Tri
theorem c_spec_l07Colouring {k : Int} {a : Value} {l : List Int} {w : World} {K : Value → World → Prop} (hk : I64 k) (ha : SlI w a l) (hl : l.length ≤ 16) (hin : AllIn l 0 255)
    (hok : (colG (l.length + 1) k fun i j => l.getD (j - i - 1).toNat 0).Ok) (hK : ∀ w', Below w.heap.size w w' → K (colG (l.length + 1) k fun i j => l.getD (j - i - 1).toNat 0).val w') :
    Fc Try.prog F_spec_l07Colouring #[.int .i64 k, a] w (.one .any) K := by
  refine walk_spec_l07Colouring _ _ (c_alloc fun p w0 hb0 hv => lenI (ha.keep hb0) ?_)
  rw [wrap_small (by omega) (by omega)]
  have n1 : ((l.length : Int) + 1) ≤ 17 := by omega
  generalize hn : (l.length : Int) + 1 = n at *
  refine tri_from (fun i j => l.getD (j - i - 1).toNat 0) hb0 hv fun b w1 ht => ?_
  refine lp (fun j w' => 1 ≤ j ∧ j ≤ n ∧ Tri w w' p b n k (fun i j => l.getD (j - i - 1).toNat 0) (edgesOf j)) (fun j _ => (n - j).toNat) ⟨by omega, by omega, ht⟩ ?_
  rintro j w2 N ⟨j0, j1, h2⟩ hN
  unfold B_spec_l07Colouring_3
  refine col_n (c := ⟨n, k, _⟩) (blk_row h2.blk) ⟨fun hlt => ?_, fun hge => ?_⟩
  · have hlt : j < n := dec_t hlt
    refine lp (fun i w' => 0 ≤ i ∧ i ≤ j ∧ Tri w w' p b n k (fun i j => l.getD (j - i - 1).toNat 0) (edgesOf j + i)) (fun i _ => (j - i).toNat) ⟨by omega, by omega, by rw [Int.add_zero]; exact h2⟩ ?_
    rintro i w3 N' ⟨i0, i1, h3⟩ hN'
    unfold B_spec_l07Colouring_6
    refine ⟨fun hlt2 => ?_, fun hge2 => ?_⟩
    · have hlt2 := dec_t hlt2
      intro w4 hdr
      have hb4 := hdr.below w3.heap.size
      have h4 := h3.keep hb4
      rw [wrap_small (n := j - i) (by omega) (by omega), wrap_small (by omega) (by omega)]
      have hx := hin.get (i := (j - i - 1).toNat) (by omega)
      refine atI (ha.keep h4.bel) (by omega) (by omega) (int_u8 hx.1 (by omega) (fldp f2 (c_spec_l01Edge i0 (by omega) (by omega) (by omega) ⟨Below.refl _ _, h4.put i0 hlt2 (by omega) fun w5 h5 => ?_⟩)))
      rw [wrap_small (by omega) (by omega)]
      exact hN' _ _ ⟨by omega, by omega, h5⟩ (by omega)
    · have hge2 := dec_f hge2
      have : i = j := by omega
      subst this
      intro _
      show N _ (IntKind.i64.wrap (i + 1)) w3
      rw [wrap_small (by omega) (by omega)]
      exact hN _ _ ⟨by omega, by omega, by rw [edgesOf_succ]; exact h3⟩ (by omega)
  · have hge : ¬ j < n := dec_f hge
    have : j = n := by omega
    subst this
    intro _
    exact tri_end hok h2 hK

end Go.Proofs.Ytdkodhonaoecnaa
