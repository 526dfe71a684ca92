/- The reading of spec_CountClasses, and its contract. No condition. -/
import Derived.Test.YtdkodhonaoecnaaTy
import Derived.Test.YtdkodhonaoecnaaS9Met
import Derived.Test.YtdkodhonaoecnaaFspecUl01In
import Derived.Test.YtdkodhonaoecnaaFspecUl06Edges
import Derived.Test.YtdkodhonaoecnaaFspecUl06Orders
namespace Go.Proofs.Ytdkodhonaoecnaa
open Go Go.RowKit Eng Mem
set_option linter.unusedVariables false
set_option maxRecDepth 100000
def B_spec_CountClasses_9 (k1 : Int) (orders6 : Value) (sum7 : Int) (i8 : Int) (own9 : Int) (e10 : Int) (N : (Int × Value × Int × Int) → (Int × Int) → World → Prop) (D2 : (Int × Value × Int × Int × Int × Unit) → World → Prop) (w : World) : Prop :=
  (((decide (e10 > (0 : Int))) = true → N (k1, (orders6 : Value), sum7, i8) ((IntKind.i64.wrap (own9 * k1)), (IntKind.i64.wrap (e10 - (1 : Int)))) w) ∧ ((decide (e10 > (0 : Int))) = false → D2 (k1, (orders6 : Value), sum7, i8, own9, ()) w))

abbrev L_spec_CountClasses_9_e2 : List Slot := [.junk, .k (.int .i64), .junk, .junk, .junk, .junk, .k .any, .k (.int .i64), .k (.int .i64), .k (.int .i64), .junk, .junk, .junk, .junk, .junk, .junk, .junk, .junk, .junk, .junk, .junk, .junk, .junk, .junk, .junk, .junk, .junk, .junk, .junk, .junk, .junk, .junk, .junk, .junk, .junk, .junk, .junk, .junk, .junk, .junk, .junk, .junk, .junk, .junk, .junk, .junk, .junk]

abbrev L_spec_CountClasses_9_sp : List Slot := [.junk, .k (.int .i64), .junk, .junk, .junk, .junk, .k .any, .k (.int .i64), .k (.int .i64), .k (.int .i64), .k (.int .i64), .junk, .junk, .junk, .junk, .junk, .junk, .junk, .junk, .junk, .junk, .junk, .junk, .junk, .junk, .junk, .junk, .junk, .junk, .junk, .junk, .junk, .junk, .junk, .junk, .junk, .junk, .junk, .junk, .junk, .junk, .junk, .junk, .junk, .junk, .junk, .junk]
abbrev L_spec_CountClasses_9_ex : List (Nat × List Slot) := [(2, L_spec_CountClasses_9_e2)]
abbrev L_spec_CountClasses_9_rt : List Slot := [.junk, .junk, .junk, .junk, .junk, .junk, .junk, .junk, .junk, .junk, .junk, .junk, .junk, .junk, .junk, .junk, .junk, .junk, .junk, .junk, .junk, .junk, .junk, .junk, .junk, .junk, .junk, .junk, .junk, .junk, .junk, .junk, .junk, .junk, .junk, .junk, .junk, .junk, .junk, .junk, .junk, .junk, .junk, .junk, .junk, .junk, .junk]

def L_spec_CountClasses_9_b (Φ : Post) (u : (Int × Value × Int × Int)) (N : (Int × Value × Int × Int) → (Int × Int) → World → Prop) (s : (Int × Int)) (w : World) : Prop :=
  B_spec_CountClasses_9 u.1 u.2.1 u.2.2.1 u.2.2.2 s.1 s.2 N (fun v w => ∀ j : Nat → Value, Φ (.exit 2) (mkT j 0 L_spec_CountClasses_9_e2 v) w) w

theorem L_spec_CountClasses_9_eq (j : Nat → Value) (u : (Int × Value × Int × Int)) (s : (Int × Int)) (N : (Int × Value × Int × Int) → (Int × Int) → World → Prop) (D2 : (Int × Value × Int × Int × Int × Unit) → World → Prop) (R : (Unit) → World → Prop) (w : World) :
    W Try.prog ty (fun _ _ _ _ => False) (loopAt Try.f15 9) (loopPost L_spec_CountClasses_9_sp [(2, (⟨L_spec_CountClasses_9_e2, D2⟩ : Door))] ⟨L_spec_CountClasses_9_rt, R⟩ (fun v w => N ((fun v => (v.1, v.2.1, v.2.2.1, v.2.2.2.1)) v) ((fun v => (v.2.2.2.2.1, v.2.2.2.2.2.1)) v) w)) (mkT j 0 L_spec_CountClasses_9_sp ((fun u s => (u.1, u.2.1, u.2.2.1, u.2.2.2, s.1, s.2, ())) u s)) w =
    B_spec_CountClasses_9 u.1 u.2.1 u.2.2.1 u.2.2.2 s.1 s.2 N D2 w := by
  kernel_rfl

def O_spec_CountClasses_1 : Code → Post → List SV → World → Prop :=
  orc 9 (loopAt Try.f15 9) L_spec_CountClasses_9_sp (fun Φ fr w => LOOP (U := (Int × Value × Int × Int)) (S := (Int × Int)) ((fun v => (v.1, v.2.1, v.2.2.1, v.2.2.2.1)) (extT L_spec_CountClasses_9_sp fr)) (L_spec_CountClasses_9_b Φ ((fun v => (v.1, v.2.1, v.2.2.1, v.2.2.2.1)) (extT L_spec_CountClasses_9_sp fr))) ((fun v => (v.2.2.2.2.1, v.2.2.2.2.2.1)) (extT L_spec_CountClasses_9_sp fr)) w) (fun _ _ _ _ => False)

theorem O_spec_CountClasses_1_ok : Sound Try.prog O_spec_CountClasses_1 :=
  orc_ok (sound_none _) fun Φ fr w hs h => loop_ok (ty := ty) follows (sound_none _) L_spec_CountClasses_9_sp (fun v => (v.1, v.2.1, v.2.2.1, v.2.2.2.1)) (fun v => (v.2.2.2.2.1, v.2.2.2.2.2.1)) (fun u s => (u.1, u.2.1, u.2.2.1, u.2.2.2, s.1, s.2, ())) (fun _ => rfl) L_spec_CountClasses_9_ex L_spec_CountClasses_9_rt (body := L_spec_CountClasses_9_b Φ) (fun j u s w N hb => by
    have e := L_spec_CountClasses_9_eq j u s N (doorOf Φ (.exit 2) L_spec_CountClasses_9_e2).D (doorOf Φ .ret L_spec_CountClasses_9_rt).D w
    exact Eq.mpr e hb) hs h

def B_spec_CountClasses_5 (k1 : Int) (orders6 : Value) (sum7 : Int) (i8 : Int) (N : (Int × Value) → (Int × Int) → World → Prop) (D0 : (Value × Int × Unit) → World → Prop) (w : World) : Prop :=
  (QAll Try.prog (Builtin.len_ #[55] 3 #[orders6]) (.int .i64) fun (x24_9 : Int) => (((decide (i8 < x24_9)) = true → (QAll Try.prog (Instr.indexAt 55 orders6 (.int .i64 i8)) .any fun (x30_10 : Value) => (QSub Try.prog (Instr.loadAt 25 x30_10) w .any fun (x31_11 : Value) => (Fc Try.prog 47 #[x31_11] w (.one (.int .i64)) fun (x32_13 : Int) w_12 => (At (loopAt Try.f15 9) (loopAt Try.f15 9) (LOOP (U := (Int × Value × Int × Int)) (S := (Int × Int)) (k1, (orders6 : Value), sum7, i8) (fun N_17 s_18 w_19 => B_spec_CountClasses_9 k1 (orders6 : Value) sum7 i8 s_18.1 s_18.2 N_17 (fun (v_14 : (Int × Value × Int × Int × Int × Unit)) w_15 => ∀ _j_16 : Nat → Value, N (v_14.1, (v_14.2.1 : Value)) ((IntKind.i64.wrap (v_14.2.2.1 + v_14.2.2.2.2.1)), (IntKind.i64.wrap (v_14.2.2.2.1 + (1 : Int)))) w_15) w_19) ((1 : Int), x32_13) w_12)))))) ∧ ((decide (i8 < x24_9)) = false → D0 ((orders6 : Value), sum7, ()) w)))

abbrev L_spec_CountClasses_5_e0 : List Slot := [.junk, .junk, .junk, .junk, .junk, .junk, .k .any, .k (.int .i64), .junk, .junk, .junk, .junk, .junk, .junk, .junk, .junk, .junk, .junk, .junk, .junk, .junk, .junk, .junk, .junk, .junk, .junk, .junk, .junk, .junk, .junk, .junk, .junk, .junk, .junk, .junk, .junk, .junk, .junk, .junk, .junk, .junk, .junk, .junk, .junk, .junk, .junk, .junk]

abbrev L_spec_CountClasses_5_sp : List Slot := [.junk, .k (.int .i64), .junk, .junk, .junk, .junk, .k .any, .k (.int .i64), .k (.int .i64), .junk, .junk, .junk, .junk, .junk, .junk, .junk, .junk, .junk, .junk, .junk, .junk, .junk, .junk, .junk, .junk, .junk, .junk, .junk, .junk, .junk, .junk, .junk, .junk, .junk, .junk, .junk, .junk, .junk, .junk, .junk, .junk, .junk, .junk, .junk, .junk, .junk, .junk]
abbrev L_spec_CountClasses_5_ex : List (Nat × List Slot) := [(0, L_spec_CountClasses_5_e0)]
abbrev L_spec_CountClasses_5_rt : List Slot := [.junk, .junk, .junk, .junk, .junk, .junk, .junk, .junk, .junk, .junk, .junk, .junk, .junk, .junk, .junk, .junk, .junk, .junk, .junk, .junk, .junk, .junk, .junk, .junk, .junk, .junk, .junk, .junk, .junk, .junk, .junk, .junk, .junk, .junk, .junk, .junk, .junk, .junk, .junk, .junk, .junk, .junk, .junk, .junk, .junk, .junk, .junk]

def L_spec_CountClasses_5_b (Φ : Post) (u : (Int × Value)) (N : (Int × Value) → (Int × Int) → World → Prop) (s : (Int × Int)) (w : World) : Prop :=
  B_spec_CountClasses_5 u.1 u.2 s.1 s.2 N (fun v w => ∀ j : Nat → Value, Φ (.exit 0) (mkT j 0 L_spec_CountClasses_5_e0 v) w) w

theorem L_spec_CountClasses_5_eq (j : Nat → Value) (u : (Int × Value)) (s : (Int × Int)) (N : (Int × Value) → (Int × Int) → World → Prop) (D0 : (Value × Int × Unit) → World → Prop) (R : (Unit) → World → Prop) (w : World) :
    W Try.prog ty O_spec_CountClasses_1 (loopAt Try.f15 5) (loopPost L_spec_CountClasses_5_sp [(0, (⟨L_spec_CountClasses_5_e0, D0⟩ : Door))] ⟨L_spec_CountClasses_5_rt, R⟩ (fun v w => N ((fun v => (v.1, v.2.1)) v) ((fun v => (v.2.2.1, v.2.2.2.1)) v) w)) (mkT j 0 L_spec_CountClasses_5_sp ((fun u s => (u.1, u.2, s.1, s.2, ())) u s)) w =
    B_spec_CountClasses_5 u.1 u.2 s.1 s.2 N D0 w := by
  kernel_rfl

def O_spec_CountClasses_2 : Code → Post → List SV → World → Prop :=
  orc 5 (loopAt Try.f15 5) L_spec_CountClasses_5_sp (fun Φ fr w => LOOP (U := (Int × Value)) (S := (Int × Int)) ((fun v => (v.1, v.2.1)) (extT L_spec_CountClasses_5_sp fr)) (L_spec_CountClasses_5_b Φ ((fun v => (v.1, v.2.1)) (extT L_spec_CountClasses_5_sp fr))) ((fun v => (v.2.2.1, v.2.2.2.1)) (extT L_spec_CountClasses_5_sp fr)) w) O_spec_CountClasses_1

theorem O_spec_CountClasses_2_ok : Sound Try.prog O_spec_CountClasses_2 :=
  orc_ok O_spec_CountClasses_1_ok fun Φ fr w hs h => loop_ok (ty := ty) follows O_spec_CountClasses_1_ok L_spec_CountClasses_5_sp (fun v => (v.1, v.2.1)) (fun v => (v.2.2.1, v.2.2.2.1)) (fun u s => (u.1, u.2, s.1, s.2, ())) (fun _ => rfl) L_spec_CountClasses_5_ex L_spec_CountClasses_5_rt (body := L_spec_CountClasses_5_b Φ) (fun j u s w N hb => by
    have e := L_spec_CountClasses_5_eq j u s N (doorOf Φ (.exit 0) L_spec_CountClasses_5_e0).D (doorOf Φ .ret L_spec_CountClasses_5_rt).D w
    exact Eq.mpr e hb) hs h

def V_spec_CountClasses (n0 : Int) (k1 : Int) (w : World) (K : (Int × Int) → World → Prop) : Prop :=
  (Fc Try.prog 45 #[(.int .i64 n0), (.int .i64 (1 : Int)), (.int .i64 (7 : Int))] w (.one .bool) fun (x12_2 : Bool) w_1 => (((!x12_2) = true → K ((0 : Int), (2 : Int)) w_1) ∧ ((!x12_2) = false → (Fc Try.prog 45 #[(.int .i64 k1), (.int .i64 (1 : Int)), (.int .i64 (4 : Int))] w_1 (.one .bool) fun (x16_4 : Bool) w_3 => (((!x16_4) = true → K ((0 : Int), (2 : Int)) w_3) ∧ ((!x16_4) = false → (Pr Try.prog (Instr.buildSlice 25 0 #[]) w_3 (.one .any) fun (x19_6 : Value) w_5 => (Fc Try.prog 46 #[x19_6, (.int .i64 n0)] w_5 (.one .any) fun (x21_8 : Value) w_7 => (At (loopAt Try.f15 5) (loopAt Try.f15 5) (LOOP (U := (Int × Value)) (S := (Int × Int)) (k1, (x21_8 : Value)) (fun N_24 s_25 w_26 => B_spec_CountClasses_5 k1 (x21_8 : Value) s_25.1 s_25.2 N_24 (fun (v_20 : (Value × Int × Unit)) w_21 => ∀ _j_22 : Nat → Value, (QAll Try.prog (Builtin.len_ #[55] 3 #[v_20.1]) (.int .i64) fun (x45_23 : Int) => (x45_23 ≠ 0 ∧ K ((IntKind.i64.wrap (Int.tdiv v_20.2.1 x45_23)), (0 : Int)) w_21))) w_26) ((0 : Int), (0 : Int)) w_7))))))))))

theorem eq_spec_CountClasses (n0 : Int) (k1 : Int) (w : World) (K : (Int × Int) → World → Prop) :
    W Try.prog ty O_spec_CountClasses_2 (bodyOf Try.f15) (fnPost Try.prog Try.f15.results.toList (.two (.int .i64) (.int .i64)) K) (frame0 [(.int .i64 n0), (.int .i64 k1)] 47) w = V_spec_CountClasses n0 k1 w K := by
  kernel_rfl

theorem body_spec_CountClasses : Try.f15.body = some (bodyOf Try.f15) := by kernel_rfl
theorem name_spec_CountClasses : (Try.f15.name == "runtime.NumGoroutine") = false := by kernel_rfl

theorem walk_spec_CountClasses (n0 : Int) (k1 : Int) {w : World} {K : (Int × Int) → World → Prop} (h : V_spec_CountClasses n0 k1 w K) : Fc Try.prog 15 #[(.int .i64 n0), (.int .i64 k1)] w (.two (.int .i64) (.int .i64)) K :=
  fn_ok follows O_spec_CountClasses_2_ok Try.func15 name_spec_CountClasses body_spec_CountClasses Try.ntmps15 [(.int .i64 n0), (.int .i64 k1)] (Eq.mpr (eq_spec_CountClasses n0 k1 w K) h)

-- uses S9Met
theorem cls_bd' {k : Int} (k0 : 1 ≤ k) (k4 : k ≤ 4) (p : List Int) {n : Int} (n0 : 1 ≤ n) (n7 : n ≤ 7) : ∀ i : Nat, i ≤ cycN p n → 1 ≤ k ^ i ∧ k ^ i ≤ 4398046511104 := fun i hi => by
  have hc := cycS_le p (edgesOf n).toNat
  have he := edgesOf_mono (j := n) (n := 7) (by omega) n7
  rw [show edgesOf 7 = 21 from by decide] at he
  unfold cycN at hi
  obtain ⟨t, rfl⟩ : ∃ t : Nat, k = t := ⟨k.toNat, by omega⟩
  have h1 : 1 ≤ t ^ i := Nat.pow_pos (by omega)
  have h2 : t ^ i ≤ 4 ^ 21 := Nat.le_trans (Nat.pow_le_pow_left (by omega) i) (Nat.pow_le_pow_right (by omega) (by omega))
  rw [show (4 : Nat) ^ 21 = 4398046511104 from by decide] at h2
  have e : ((t : Int) ^ i) = ((t ^ i : Nat) : Int) := by simp
  rw [e]
  omega
theorem c_spec_CountClasses {n k : Int} {w : World} {K : Int × Int → World → Prop} (_ : I64 n) (_ : I64 k)
    (hK : ∀ w', Below w.heap.size w w' → K ((clsF n k).1, (clsF n k).2) w') : Fc Try.prog F_spec_CountClasses #[.int .i64 n, .int .i64 k] w (.two (.int .i64) (.int .i64)) K := by
  unfold clsF at hK
  refine walk_spec_CountClasses _ _ (c_spec_l01In _ _ _ ⟨fun h => ?_, fun h => c_spec_l01In _ _ _ ⟨fun h2 => ?_, fun h2 => ?_⟩⟩)
  · rw [if_neg (fun hh => notd_t h hh.1)] at hK
    exact hK w (Below.refl _ _)
  · rw [if_neg (fun hh => notd_t h2 hh.2)] at hK
    exact hK w (Below.refl _ _)
  have hn := notd_f h; have hk := notd_f h2
  rw [if_pos ⟨hn, hk⟩] at hK
  unfold clsN at hK
  obtain ⟨m, rfl⟩ : ∃ m : Nat, n = m := ⟨n.toNat, by omega⟩
  rw [Int.toNat_natCast] at hK
  obtain ⟨L, hL⟩ : ∃ L, ordF m m [] = L := ⟨_, rfl⟩
  have hLl := ordF_len m m []
  have hLp := ordF_pos m m [] ⟨by simp, by simp⟩ (by simp)
  have hLm : ∀ r ∈ L, PermL r m := fun r hr => ordF_perm (by rw [hL]; exact hr)
  have hpow : m ^ m ≤ 7 ^ 7 := Nat.le_trans (Nat.pow_le_pow_left (by omega) m) (Nat.pow_le_pow_right (by omega) (by omega))
  refine nilI fun b0 v0 w0 e0 q0 o0 => ?_
  refine c_spec_l06Orders (n := m) (by omega) (by omega) m [] v0 w.heap.size w0 _ (by simp) q0.size (own_my o0 (by simp) (by omega) o0.lt) fun u w1 b hb q01 hu => ?_
  have q1 := q0.trans (q01.mono q0.size)
  rw [hL] at hLl hLp hK hu
  have hpos : 0 < L.length := List.length_pos_iff.2 hLp
  have sb : ∀ i : Nat, i ≤ L.length → 0 ≤ sumN (fun i => k ^ cycN (L.getD i []) m) i ∧ sumN (fun i => k ^ cycN (L.getD i []) m) i ≤ 3621980417894121472 := fun i hi => by
    have := sumN_bd (f := fun i => k ^ cycN (L.getD i []) m) (n := i) (M := 4398046511104) fun j _ => by
      have := cls_bd' hk.1 hk.2 (L.getD j []) hn.1 hn.2 _ (Nat.le_refl _)
      omega
    omega
  refine lp (fun s w' => Below w1.heap.size w1 w' ∧ ∃ i : Nat, s.2 = i ∧ i ≤ L.length ∧ s.1 = sumN (fun i => k ^ cycN (L.getD i []) m) i) (fun s _ => (L.length - s.2).toNat) ⟨Below.refl _ _, 0, rfl, by omega, rfl⟩ ?_
  rintro ⟨all, t⟩ w2 N ⟨q2, i, hi, hiL, hall⟩ hN
  simp only at hi hall
  subst hi; subst hall
  unfold B_spec_CountClasses_5
  dsimp only
  have hu2 := hu.keep q2
  refine hu2.len_eq ⟨fun hlt => ?_, fun hge => ?_⟩
  · have hlt := dec_t hlt
    refine atSS hu2 (by omega) hlt fun r c hc hr => ?_
    rw [Int.toNat_natCast] at hr
    have hmem : L.getD i [] ∈ L := by
      have : i < L.length := by omega
      have e : L.getD i [] = L[i] := by simp [List.getD, this]
      rw [e]; exact List.getElem_mem this
    have hperm := hLm _ hmem
    have hpl := hperm.len
    have hce := fun K' => c_spec_l06Edges (p := L.getD i []) (v := r) (w := w2) (K := K')
    have s1 := sb i hiL
    have s2 := sb (i + 1) (by omega)
    have hss : sumN (fun i => k ^ cycN (L.getD i []) m) (i + 1) = sumN (fun i => k ^ cycN (L.getD i []) m) i + k ^ cycN (L.getD i []) m := rfl
    rw [hpl] at hce
    generalize L.getD i [] = p at hr hperm hpl hce hss ⊢
    refine hce _ (own_slI hr (by omega)) hperm (by omega) (by omega) fun w3 q3 => ?_
    have c21 : cycN p (m : Int) ≤ 21 := by
      have hc := cycS_le p (edgesOf (m : Int)).toNat
      have he := edgesOf_mono (j := (m : Int)) (n := 7) (by omega) (by omega)
      rw [show edgesOf 7 = 21 from by decide] at he
      unfold cycN
      omega
    have cb := cls_bd' hk.1 hk.2 p hn.1 hn.2
    refine lp (fun s w' => w' = w3 ∧ ∃ j : Nat, s.2 = (cycN p m : Int) - j ∧ j ≤ cycN p m ∧ s.1 = k ^ j) (fun s _ => s.2.toNat) ⟨rfl, 0, by simp, by omega, by simp⟩ ?_
    rintro ⟨kept, t⟩ w4 N' ⟨rfl, j, hj, hjn, hkept⟩ hN'
    simp only at hj hkept
    subst hj; subst hkept
    unfold B_spec_CountClasses_9
    dsimp only
    refine ⟨fun hlt2 => ?_, fun hge2 => ?_⟩
    · have hlt2 := dec_t hlt2
      have := cb (j + 1) (by omega)
      rw [Int.pow_succ] at this
      rw [wrap_small (n := k ^ j * k) (by omega) (by omega), wrap_small (n := (cycN p m : Int) - j - 1) (by omega) (by omega)]
      exact hN' _ _ ⟨rfl, j + 1, by simp only; omega, by omega, by simp only [Int.pow_succ]⟩ (by simp only; omega)
    · have hge2 := dec_f hge2
      have : j = cycN p m := by omega
      subst this
      intro _
      try dsimp only
      rw [wrap_small (n := sumN _ i + k ^ cycN p m) (by omega) (by omega), wrap_small (n := (i : Int) + 1) (by omega) (by omega)]
      exact hN _ _ ⟨q2.trans (q3.mono q2.size), i + 1, by simp only; omega, by omega, by simp only [hss]⟩ (by simp only; omega)
  · have hge := dec_f hge
    have : i = L.length := by omega
    subst this
    intro _
    refine hu2.len_eq ⟨by omega, ?_⟩
    have := sb L.length (Nat.le_refl _)
    rw [Int.tdiv_eq_ediv_of_nonneg this.1]
    have hd := Int.ediv_le_self (L.length : Int) this.1
    have hd0 := Int.ediv_nonneg this.1 (show (0 : Int) ≤ L.length by omega)
    rw [wrap_small (by omega) (by omega)]
    exact hK w2 (q1.trans (q2.mono q1.size))

end Go.Proofs.Ytdkodhonaoecnaa
