/- The reading of impl_faults, and its contract. No condition. -/
import Derived.Test.YtkadckhealbdaaaTy
import Derived.Test.YtkadckhealbdaaaS8SS
import Derived.Test.YtkadckhealbdaaaFimplUfaultsAt
import Derived.Test.YtkadckhealbdaaaFimplUfaultsU1
import Derived.Test.YtkadckhealbdaaaFimplUsizeS
namespace Go.Proofs.Ytkadckhealbdaaa
open Go Go.RowKit Eng Mem
set_option linter.unusedVariables false
set_option maxRecDepth 100000
def B_impl_faults_3 (part0 : Value) (kind1 : Int) (out5 : Value) (z6 : Value) (N : (Value × Int × Value) → Value → World → Prop) (D0 : (Value × Unit) → World → Prop) (w : World) : Prop :=
  (∀ w_11, Drew w w_11 → (QSub Try.prog (Instr.loadAt 2 z6) w_11 (.int .i64) fun (x8_12 : Int) => (Fc Try.prog 58 #[part0] w_11 (.one (.int .i64)) fun (x10_14 : Int) w_13 => (Keeps w_11 w_13 ((((decide (x8_12 ≤ x10_14)) = true → (QSub Try.prog (Instr.loadAt 2 z6) w_13 (.int .i64) fun (x16_15 : Int) => (Fc Try.prog 93 #[part0, (.int .i64 kind1), (.int .i64 x16_15), (.func (.func 94) #[] #[out5, z6])] w_13 .unit fun (x18_17 : Unit) w_16 => (QSub Try.prog (Instr.loadAt 2 z6) w_16 (.int .i64) fun (x19_18 : Int) => (Pr Try.prog (Instr.alloc 2 true (.tuple #[])) w_16 (.one .any) fun (z6_20 : Value) w_19 => (PrU Try.prog (Instr.storeAt 2 z6_20 (.int .i64 x19_18)) w_19 fun w_21 => (QSub Try.prog (Instr.loadAt 2 z6_20) w_21 (.int .i64) fun (x12_23 : Int) => (PrU Try.prog (Instr.storeAt 2 z6_20 (.int .i64 (IntKind.i64.wrap (x12_23 + (1 : Int))))) w_21 fun w_24 => N ((part0 : Value), kind1, (out5 : Value)) (z6_20 : Value) w_24)))))))) ∧ ((decide (x8_12 ≤ x10_14)) = false → D0 ((out5 : Value), ()) w_13)))))))

abbrev L_impl_faults_3_e0 : List Slot := [.junk, .junk, .junk, .junk, .junk, .k .any, .junk, .junk, .junk, .junk, .junk, .junk, .junk, .junk, .junk, .junk, .junk, .junk, .junk, .junk, .junk]

abbrev L_impl_faults_3_sp : List Slot := [.k .any, .k (.int .i64), .junk, .junk, .junk, .k .any, .k .any, .junk, .junk, .junk, .junk, .junk, .junk, .junk, .junk, .junk, .junk, .junk, .junk, .junk, .junk]
abbrev L_impl_faults_3_ex : List (Nat × List Slot) := [(0, L_impl_faults_3_e0)]
abbrev L_impl_faults_3_rt : List Slot := [.junk, .junk, .junk, .junk, .junk, .junk, .junk, .junk, .junk, .junk, .junk, .junk, .junk, .junk, .junk, .junk, .junk, .junk, .junk, .junk, .junk]

def L_impl_faults_3_b (Φ : Post) (u : (Value × Int × Value)) (N : (Value × Int × Value) → Value → World → Prop) (s : Value) (w : World) : Prop :=
  B_impl_faults_3 u.1 u.2.1 u.2.2 s N (fun v w => ∀ j : Nat → Value, Φ (.exit 0) (mkT j 0 L_impl_faults_3_e0 v) w) w

theorem L_impl_faults_3_eq (j : Nat → Value) (u : (Value × Int × Value)) (s : Value) (N : (Value × Int × Value) → Value → World → Prop) (D0 : (Value × Unit) → World → Prop) (R : (Unit) → World → Prop) (w : World) :
    W Try.prog ty (fun _ _ _ _ => False) (loopAt Try.f62 3) (loopPost L_impl_faults_3_sp [(0, (⟨L_impl_faults_3_e0, D0⟩ : Door))] ⟨L_impl_faults_3_rt, R⟩ (fun v w => N ((fun v => (v.1, v.2.1, v.2.2.1)) v) ((fun v => v.2.2.2.1) v) w)) (mkT j 0 L_impl_faults_3_sp ((fun u s => (u.1, u.2.1, u.2.2, s, ())) u s)) w =
    B_impl_faults_3 u.1 u.2.1 u.2.2 s N D0 w := by
  kernel_rfl

def O_impl_faults_1 : Code → Post → List SV → World → Prop :=
  orc 3 (loopAt Try.f62 3) L_impl_faults_3_sp (fun Φ fr w => LOOP (U := (Value × Int × Value)) (S := Value) ((fun v => (v.1, v.2.1, v.2.2.1)) (extT L_impl_faults_3_sp fr)) (L_impl_faults_3_b Φ ((fun v => (v.1, v.2.1, v.2.2.1)) (extT L_impl_faults_3_sp fr))) ((fun v => v.2.2.2.1) (extT L_impl_faults_3_sp fr)) w) (fun _ _ _ _ => False)

theorem O_impl_faults_1_ok : Sound Try.prog O_impl_faults_1 :=
  orc_ok (sound_none _) fun Φ fr w hs h => loop_ok (ty := ty) follows (sound_none _) L_impl_faults_3_sp (fun v => (v.1, v.2.1, v.2.2.1)) (fun v => v.2.2.2.1) (fun u s => (u.1, u.2.1, u.2.2, s, ())) (fun _ => rfl) L_impl_faults_3_ex L_impl_faults_3_rt (body := L_impl_faults_3_b Φ) (fun j u s w N hb => by
    have e := L_impl_faults_3_eq j u s N (doorOf Φ (.exit 0) L_impl_faults_3_e0).D (doorOf Φ .ret L_impl_faults_3_rt).D w
    exact Eq.mpr e hb) hs h

def V_impl_faults (part0 : Value) (kind1 : Int) (w : World) (K : Value → World → Prop) : Prop :=
  (Pr Try.prog (Instr.buildSlice 68 0 #[]) w (.one .any) fun (x7_2 : Value) w_1 => (Pr Try.prog (Instr.alloc 68 true (.tuple #[])) w_1 (.one .any) fun (out5_4 : Value) w_3 => (PrU Try.prog (Instr.storeAt 68 out5_4 x7_2) w_3 fun w_5 => (Pr Try.prog (Instr.alloc 2 true (.tuple #[])) w_5 (.one .any) fun (z6_8 : Value) w_7 => (PrU Try.prog (Instr.storeAt 2 z6_8 (.int .i64 (1 : Int))) w_7 fun w_9 => (At (loopAt Try.f62 3) (loopAt Try.f62 3) (LOOP (U := (Value × Int × Value)) (S := Value) ((part0 : Value), kind1, (out5_4 : Value)) (fun N_30 s_31 w_32 => B_impl_faults_3 (part0 : Value) kind1 (out5_4 : Value) s_31 N_30 (fun (v_26 : (Value × Unit)) w_27 => ∀ _j_28 : Nat → Value, (QSub Try.prog (Instr.loadAt 68 v_26.1) w_27 .any fun (x20_29 : Value) => K (x20_29 : Value) w_27)) w_32) (z6_8 : Value) w_9)))))))

theorem eq_impl_faults (part0 : Value) (kind1 : Int) (w : World) (K : Value → World → Prop) :
    W Try.prog ty O_impl_faults_1 (bodyOf Try.f62) (fnPost Try.prog Try.f62.results.toList (.one .any) K) (frame0 [part0, (.int .i64 kind1)] 21) w = V_impl_faults part0 kind1 w K := by
  kernel_rfl

theorem body_impl_faults : Try.f62.body = some (bodyOf Try.f62) := by kernel_rfl
theorem name_impl_faults : (Try.f62.name == "runtime.NumGoroutine") = false := by kernel_rfl

theorem walk_impl_faults (part0 : Value) (kind1 : Int) {w : World} {K : Value → World → Prop} (h : V_impl_faults part0 kind1 w K) : Fc Try.prog 62 #[part0, (.int .i64 kind1)] w (.one .any) K :=
  fn_ok follows O_impl_faults_1_ok Try.func62 name_impl_faults body_impl_faults Try.ntmps62 [part0, (.int .i64 kind1)] (Eq.mpr (eq_impl_faults part0 kind1 w K) h)

-- uses S8SS
theorem c_impl_faults {a : Value} {l : List Int} {kind : Int} {w : World} {K : Value → World → Prop} (h : SlI w a l) (hl : l.length ≤ 41) (hk : 0 ≤ kind ∧ kind ≤ 2)
    (hK : ∀ w' v b, Below w.heap.size w w' → w.heap.size ≤ b → MySS w.heap.size b w' v (faR l kind 0 l.length) → K v w') : Fc Try.prog F_impl_faults #[a, .int .i64 kind] w (.one .any) K := by
  refine walk_impl_faults _ _ (nilSS fun b0 v0 w1 hb0 hbel hone h0 => alloc1 y1SSI fun b w2 n2 => st y1SSI n2.at_ (by simp) hone fun w3 m3 s3 h3 => alloc1 yI fun bz w4 n4 => st yI n4.at_ (by simp) rfl fun w5 m5 s5 h5 => ?_)
  have e2 := n2.here; have s2 := n2.size; have e4 := n4.here; have s4 := n4.size; have hs1 := hbel.size
  have b13 : Below w1.heap.size w1 w3 := n2.below.trans (m3.below (by omega) (by simp; omega))
  have b35 : Below w3.heap.size w3 w5 := n4.below.trans (m5.below (by omega) (by simp; omega))
  have hb5 : Below w.heap.size w w5 := (hbel.trans (b13.mono hs1)).trans (b35.mono (by omega))
  have hF : FS w.heap.size w5 (ptr b 0) (ptr bz 0) [] 1 := ⟨b, bz, v0, b0, rfl, rfl, by omega, hb0, hone, below_at b35 h3 (at_lt h3), h5, (h0.keep b13).keep b35⟩
  refine lp (fun q w' => ∃ z : Int, 1 ≤ z ∧ z ≤ l.length + 1 ∧ Below w.heap.size w w' ∧ FS w.heap.size w' (ptr b 0) q (faR l kind 0 (z - 1).toNat) z) (fun q w' => match (match q with | .pointer (some x) => w'.cell? x | _ => none) with | some (.int _ z) => (l.length + 1 - z).toNat | _ => 0) ⟨1, by omega, by omega, hb5, by rw [show ((1 : Int) - 1).toNat = 0 from by decide]; exact hF⟩ ?_
  rintro q w6 N ⟨z, z0, z1, hb6, hF⟩ hN
  have hμ : ∀ (q : Value) (w : World) (z : Int), Cell w q (.int .i64 z) → (match (match q with | .pointer (some x) => w.cell? x | _ => none) with | some (.int _ z) => (l.length + 1 - z).toNat | _ => 0) = (l.length + 1 - z).toNat := fun q w z hc => by
    obtain ⟨b, off, cs, e, fz, rfl, ha, hr⟩ := hc
    have h0 := hr 0 (by simp)
    simp only [Nat.add_zero, List.getElem?_cons_zero] at h0
    simp [World.cell?, ha, h0]
  rw [hμ _ _ _ hF.z] at hN
  unfold B_impl_faults_3
  intro w7 hd
  have hb7 := hd.below w6.heap.size
  have hF7 := hF.keep hb7
  refine ld (k := .int .i64) yI hF7.z (c_impl_sizeS ((h.keep hb6).keep hb7) ⟨Below.refl _ _, fun hle => ?_, fun hgt => ?_⟩)
  · have hle := dec_t hle
    refine ld (k := .int .i64) yI hF7.z ?_
    have hb67 := hb6.trans (hb7.mono hb6.size)
    have hfl := faR_len l kind (z - 1).toNat (by omega)
    refine c_impl_faultsAt (fun d w' => Below w.heap.size w w' ∧ FS w.heap.size w' (ptr b 0) q (faR l kind 0 (z - 1).toNat ++ d.map fun p => [p.1, p.2, z]) z) hl hk (by omega) hle (fun d w' hj => h.keep hj.1) (fun d w' w'' hj hd => ⟨hj.1.trans (hd.below _), hj.2.keep (hd.below _)⟩) (fun y y0 y1 hi w' K' hj hk' => cv rfl ?_) ⟨hb67, by simpa using hF7⟩ fun w8 hj => ?_
    · have := fz_len l kind z (y - 1).toNat
      refine c_impl_faults_1 hj.2 (by rw [List.length_append, List.length_map]; omega) hj.1.size fun w'' hb'' hF'' => hk' w'' ⟨hj.1.trans hb'', ?_⟩
      rw [List.map_append, ← List.append_assoc]
      exact hF''
    · obtain ⟨hb8, hF8⟩ := hj
      refine ld (k := .int .i64) yI hF8.z (alloc1 yI fun b9 w9 n9 => st yI n9.at_ (by simp) rfl fun w10 m10 s10 h10 => ld (k := .int .i64) yI (row_all (cs := [_]) h10) (st yI h10 (by simp) rfl fun w11 m11 s11 h11 => ?_))
      have e9 := n9.here; have s9 := n9.size
      have b811 : Below w8.heap.size w8 w11 := (n9.below.trans (m10.below (by omega) (by simp; omega))).trans (m11.below (by omega) (by simp; omega))
      rw [wrap_small (by omega) (by omega)] at h11
      have hstep := faR_succ l kind 0 (z - 1).toNat
      rw [show ((0 + (z - 1).toNat : Nat) : Int) + 1 = z from by omega, show 0 + (z - 1).toNat = (z - 1).toNat from by omega] at hstep
      have hF11 := (hF8.keep b811).turn (b' := b9) (z' := z + 1) (by simpa using h11)
      refine hN _ _ ⟨z + 1, by omega, by omega, hb8.trans (b811.mono hb8.size), ?_⟩ ?_
      · rw [show (z + 1 - 1).toNat = (z - 1).toNat + 1 from by omega, hstep]
        exact hF11
      · rw [hμ _ _ _ hF11.z]
        omega
  · have hgt := dec_f hgt
    have : z = l.length + 1 := by omega
    subst this
    intro _
    obtain ⟨x, bz', v, b', hp, hq, h1, h2, h3', h4, h5', h6⟩ := hF7
    injection hp with hp; injection hp with hp; injection hp with hp
    subst hp
    refine ld (k := .any) y1SSI (row_all (cs := [_]) h4) ?_
    rw [show ((l.length : Int) + 1 - 1).toNat = l.length from by omega] at h6
    exact hK w7 v b' (hb6.trans (hb7.mono hb6.size)) h2 h6

end Go.Proofs.Ytkadckhealbdaaa
