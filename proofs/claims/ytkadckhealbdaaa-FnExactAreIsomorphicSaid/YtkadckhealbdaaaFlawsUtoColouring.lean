/- The reading of laws_toColouring, and its contract. No condition. -/
import Derived.Test.YtkadckhealbdaaaTy
import Derived.Test.YtkadckhealbdaaaS1Col
import Derived.Test.YtkadckhealbdaaaFlawsUtoByteA136
namespace Go.Proofs.Ytkadckhealbdaaa
open Go Go.RowKit Eng Mem
set_option linter.unusedVariables false
set_option maxRecDepth 100000
def V_laws_toColouring (a0 : Value) (w : World) (K : Value → World → Prop) : Prop :=
  (Pr Try.prog (Instr.box 24 a0) w (.one .any) fun (a1_2 : Value) w_1 => (Pr Try.prog (Instr.alloc 25 true (.tuple #[])) w_1 (.one .any) fun (x2_4 : Value) w_3 => (Pr Try.prog (Instr.alloc 25 true (.tuple #[])) w_3 (.one .any) fun (out3_6 : Value) w_5 => (QAll Try.prog (Instr.fieldAt 24 a1_2 0) .any fun (x4_7 : Value) => (QSub Try.prog (Instr.loadAt 2 x4_7) w_5 (.int .i64) fun (x5_8 : Int) => (QAll Try.prog (Instr.fieldAt 25 out3_6 0) .any fun (x6_9 : Value) => (PrU Try.prog (Instr.storeAt 2 x6_9 (.int .i64 x5_8)) w_5 fun w_10 => (QAll Try.prog (Instr.fieldAt 24 a1_2 1) .any fun (x7_12 : Value) => (QSub Try.prog (Instr.loadAt 2 x7_12) w_10 (.int .i64) fun (x8_13 : Int) => (QAll Try.prog (Instr.fieldAt 25 out3_6 1) .any fun (x9_14 : Value) => (PrU Try.prog (Instr.storeAt 2 x9_14 (.int .i64 x8_13)) w_10 fun w_15 => (QAll Try.prog (Instr.fieldAt 24 a1_2 2) .any fun (x10_17 : Value) => (QSub Try.prog (Instr.loadAt 22 x10_17) w_15 .any fun (x11_18 : Value) => (Fc Try.prog 45 #[x11_18] w_15 (.one .any) fun (x12_20 : Value) w_19 => (QAll Try.prog (Instr.fieldAt 25 out3_6 2) .any fun (x13_21 : Value) => (PrU Try.prog (Instr.storeAt 22 x13_21 x12_20) w_19 fun w_22 => (QSub Try.prog (Instr.loadAt 25 out3_6) w_22 .any fun (x14_24 : Value) => (PrU Try.prog (Instr.storeAt 25 x2_4 x14_24) w_22 fun w_25 => (QSub Try.prog (Instr.loadAt 25 x2_4) w_25 .any fun (r_27 : Value) => K (r_27 : Value) w_25)))))))))))))))))))

theorem eq_laws_toColouring (a0 : Value) (w : World) (K : Value → World → Prop) :
    W Try.prog ty (fun _ _ _ _ => False) (bodyOf Try.f15) (fnPost Try.prog Try.f15.results.toList (.one .any) K) (frame0 [a0] 15) w = V_laws_toColouring a0 w K := by
  kernel_rfl

theorem body_laws_toColouring : Try.f15.body = some (bodyOf Try.f15) := by kernel_rfl
theorem name_laws_toColouring : (Try.f15.name == "runtime.NumGoroutine") = false := by kernel_rfl

theorem walk_laws_toColouring (a0 : Value) {w : World} {K : Value → World → Prop} (h : V_laws_toColouring a0 w K) : Fc Try.prog 15 #[a0] w (.one .any) K :=
  fn_ok follows (sound_none _) Try.func15 name_laws_toColouring body_laws_toColouring Try.ntmps15 [a0] (Eq.mpr (eq_laws_toColouring a0 w K) h)

-- uses S1Col
theorem c_laws_toColouring {c : Col} {w : World} {K : Value → World → Prop} (h : c.Ok) (hK : ∀ w', Below w.heap.size w w' → K c.val w') :
    Fc Try.prog F_laws_toColouring #[c.val] w (.one .any) K := by
  refine walk_laws_toColouring _ ?_
  refine box c.cells rfl fun b1 w1 n1 => allocA yC fun b2 w2 n2 => allocA yC fun b3 w3 n3 => ?_
  have r1 : ColAt w3 (ptr b1 0) c := ((row_all n1.at_).keep n2.below).keep n3.below
  have e1 := n1.here; have e2 := n2.here; have e3 := n3.here; have s1 := n1.size; have s2 := n2.size; have s3 := n3.size
  have hb0 : Below w.heap.size w w3 := (n1.below.trans (n2.below.mono n1.below.size)).trans (n3.below.mono (n1.below.trans (n2.below.mono n1.below.size)).size)
  have hzl : zC.length = 138 := by simp [zC, zA]
  refine fld g0 r1.nonnil r1.isPtr (ld yI (r1.get 0 rfl) (fldp f0 (st yI n3.at_ (by omega) rfl fun w4 m4 s4 h4 => ?_)))
  have r4 : ColAt w4 (ptr b1 0) c := r1.mod m4 (by simp; omega)
  refine fld g1 r4.nonnil r4.isPtr (ld yI (r4.get 1 rfl) (fldp f1 (st yI h4 (by simp; omega) rfl fun w5 m5 s5 h5 => ?_)))
  have r5 : ColAt w5 (ptr b1 0) c := r4.mod m5 (by simp; omega)
  refine fld g2 r5.nonnil r5.isPtr (ldA yA h.es_len (Col.es_row r5) (c_laws_toByteA136 h.len fun w6 hb6 => ?_))
  have h6 := below_at hb6 h5 (by omega)
  refine fldp f2 (stA yA _ h6 h.es_len (by simp [h.len]; omega) (fun v hv => by obtain ⟨e, _, rfl⟩ := List.mem_map.1 hv; rfl) fun w7 m7 s7 h7 => ?_)
  have hz : zC = .int .i64 0 :: .int .i64 0 :: zA := rfl
  have hcells : List.take (0 + 2) ((zC.set (0 + 0) (.int .i64 c.n)).set (0 + 1) (.int .i64 c.k)) ++ c.es.map (Value.int .u8) ++ List.drop (0 + 2 + (c.es.map (Value.int .u8)).length) ((zC.set (0 + 0) (.int .i64 c.n)).set (0 + 1) (.int .i64 c.k)) = c.cells := by
    rw [List.drop_of_length_le (by simp [h.len]; omega), hz]
    simp [Col.cells]
  rw [hcells] at h7
  have x7 := m7.at_ (below_at hb6 (m5.at_ (m4.at_ (n3.mod.at_ n2.at_ (by simp)) (by simp; omega)) (by simp; omega)) (by omega)) (show b2 ∉ [b3] by simp; omega)
  refine ldA yC h.cells_len (blk_row h7) (stA0 yC x7 h.cells_len h.cells_len c.cells_one fun w8 m8 s8 h8 => ldA yC h.cells_len (blk_row h8) ?_)
  refine hK w8 ?_
  have s6 := hb6.size
  exact ((((hb0.trans (m4.below (by omega) (by simp; omega))).trans (m5.below (by omega) (by simp; omega))).trans (hb6.mono (by omega))).trans (m7.below (by omega) (by simp; omega))).trans (m8.below (by omega) (by simp; omega))

end Go.Proofs.Ytkadckhealbdaaa
