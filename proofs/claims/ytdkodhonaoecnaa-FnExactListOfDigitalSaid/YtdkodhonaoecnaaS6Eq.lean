/- Two colourings compared by the language's own ==. No condition. -/
import Derived.Test.YtdkodhonaoecnaaS2Sl
import Derived.Laws.StructEq
namespace Go.Proofs.Ytdkodhonaoecnaa
open Go Go.RowKit Eng Mem
set_option maxRecDepth 100000
theorem part_es (n k : Int) (es : List Int) (h : es.length = 136) (w : World) : (part tA (⟨n, k, es⟩ : Col).cells.toArray 2).run Try.prog w = .ok (.agg (es.map (Value.int .u8)).toArray) w := by
  obtain ⟨d, hd, hf⟩ := yA.und
  unfold part
  rw [Sem.run_bind, isAgg_run hd, hf]
  have hs : (sizeOf tA).run Try.prog w = .ok 136 w := by
    rw [sizeOf_run yA.size]; simp [zA]
  simp only [Result.andThen_ok, if_true, Sem.run_bind, hs, Sem.run_pure]
  congr 2
  simp [Col.cells, h, List.take_of_length_le]
theorem run_equalIn_es (d : Nat) (xs ys : List Int) (hx : xs.length = 136) (hy : ys.length = 136) (w : World) :
    (Op.equalIn (d + 2) tA (.agg (xs.map (Value.int .u8)).toArray) (.agg (ys.map (Value.int .u8)).toArray)).run Try.prog w = .ok ((List.range 136).all fun i => xs.getD i 0 == ys.getD i 0) w := by
  have hs : ∀ w, (sizeOf tB).run Try.prog w = .ok 1 w := fun w => sizeOf_run yB.size w
  rw [List.range_eq_range', Op.equalIn]
  simp only [Sem.run_bind, run_underlying Try.underlyingTA, Result.andThen_ok, hs, Std.Legacy.Range.forIn_eq_forIn_range', Std.Legacy.Range.size, Nat.sub_zero, Nat.add_sub_cancel, Nat.div_one]
  have hl : ∀ i ∈ List.range' 0 136 1, i < 136 := fun i hi => by simpa using (List.mem_range'_1.1 hi).2
  generalize List.range' 0 136 1 = l at hl ⊢
  induction l with
  | nil => simp
  | cons i l ih =>
    have hi : i < 136 := hl i (by simp)
    have px : (part tB (xs.map (Value.int .u8)).toArray (i * 1)).run Try.prog w = .ok (.int .u8 (xs.getD i 0)) w := part_run yB (by simp [show i < xs.length by omega]) w
    have py : (part tB (ys.map (Value.int .u8)).toArray (i * 1)).run Try.prog w = .ok (.int .u8 (ys.getD i 0)) w := part_run yB (by simp [show i < ys.length by omega]) w
    have pe : (Op.equalIn (d + 1) tB (.int .u8 (xs.getD i 0)) (.int .u8 (ys.getD i 0))).run Try.prog w = .ok (xs.getD i 0 == ys.getD i 0) w := run_equalIn_int w d tB .u8 .u8 _ _ Try.underlyingTB
    simp only [List.forIn_cons, Sem.run_bind, px, py, pe, Result.andThen_ok, List.all_cons]
    cases hb : (xs.getD i 0 == ys.getD i 0)
    · simp
    · simp only [Bool.not_true, Bool.false_eq_true, if_false, Sem.run_pure, Result.andThen_ok, Bool.true_and]
      exact ih fun j hj => hl j (by simp [hj])
theorem fieldsC : (Try.prog.fieldsOf tC).toList.map (fun f => (f.name == "_", f.type, f.offset)) = [(false, tI, 0), (false, tI, 1), (false, tA, 2)] := by kernel_rfl
theorem eq_tail {P : Program} {A A' : Sem Value} {F : Value → Value → Sem Bool} {V V' : Value} {w : World} {b : Bool} (q : A.run P w = .ok V w) (q' : A'.run P w = .ok V' w) (e : (F V V').run P w = .ok b w) :
    (if (!true) = true then pure false else do
        let a ← A
        let b ← A'
        let r ← F a b
        if (!r) = true then pure false else pure true : Sem Bool).run P w = .ok (true && b) w := by
  cases b <;> simp [q, q', e]
theorem col_dec (n k : Int) (es : List Int) (n' k' : Int) (es' : List Int) : decide ((⟨n, k, es⟩ : Col) = ⟨n', k', es'⟩) = ((n == n') && ((k == k') && decide (es = es'))) := by
  rw [Bool.eq_iff_iff]
  simp only [decide_eq_true_iff, Bool.and_eq_true, beq_iff_eq, Col.mk.injEq]
theorem structC : Try.prog.underlying tC = some (.struct (Try.prog.fieldsOf tC)) := by kernel_rfl
theorem stoodC : Try.prog.stoodInHeld tC = false := by kernel_rfl
theorem guardC : Try.prog.eqGuardType Try.prog.depth tC = false := by kernel_rfl
theorem run_equalIn_col (m : Nat) (c d : Col) (hc : c.Ok) (hd : d.Ok) (w : World) : (Op.equalIn (m + 4) tC c.val d.val).run Try.prog w = .ok (decide (c = d)) w := by
  obtain ⟨n, k, es⟩ := c
  obtain ⟨n', k', es'⟩ := d
  unfold Col.val
  rw [col_dec, run_equalIn_struct w (m + 3) tC _ _ structC stoodC]
  have hF := fieldsC
  generalize (Try.prog.fieldsOf tC).toList = fs at hF
  rcases fs with _ | ⟨f0, _ | ⟨f1, _ | ⟨f2, _ | ⟨f3, fs⟩⟩⟩⟩
  · simp at hF
  · simp at hF
  · simp at hF
  · simp only [List.map_cons, List.map_nil, List.cons.injEq, Prod.mk.injEq, beq_eq_false_iff_ne, and_true] at hF
    obtain ⟨⟨a0, b0, c0⟩, ⟨a1, b1, c1⟩, ⟨a2, b2, c2⟩⟩ := hF
    have p0 : ∀ (n k : Int) (es : List Int), (part tI (⟨n, k, es⟩ : Col).cells.toArray 0).run Try.prog w = .ok (.int .i64 n) w := fun n k es => part_run yI rfl w
    have p1 : ∀ (n k : Int) (es : List Int), (part tI (⟨n, k, es⟩ : Col).cells.toArray 1).run Try.prog w = .ok (.int .i64 k) w := fun n k es => part_run yI rfl w
    have e0 : ∀ a b : Int, (Op.equalIn (m + 3) tI (.int .i64 a) (.int .i64 b)).run Try.prog w = .ok (a == b) w := fun a b => run_equalIn_int w (m + 2) tI .i64 .i64 a b Try.underlyingTI
    have e2 := run_equalIn_es (m + 1) es es' hc.len hd.len w
    have hall : ((List.range 136).all fun i => es.getD i 0 == es'.getD i 0) = decide (es = es') := by
      rw [Bool.eq_iff_iff, List.all_eq_true, decide_eq_true_iff]
      constructor
      · intro h
        apply List.ext_getElem (by rw [hc.len, hd.len])
        intro i h1 h2
        have hl := hc.len
        have := h i (List.mem_range.2 (by simp only at hl; omega))
        simpa [List.getD, h1, h2] using this
      · rintro rfl i _; simp
    rw [hall] at e2
    have q2 := part_es n k es hc.len w
    have q2' := part_es n' k' es' hd.len w
    have e2' : (Op.equalIn (m + 3) tA (.agg (es.map (Value.int .u8)).toArray) (.agg (es'.map (Value.int .u8)).toArray)).run Try.prog w = .ok (decide (es = es')) w := e2
    clear e2 hall
    have e0' := e0 k k'
    simp only [Op.eqFields, a0, a1, a2, ne_eq, not_false_eq_true, if_true, b0, b1, b2, c0, c1, c2, Sem.run_bind, p0, Result.andThen_ok, e0]
    generalize (n == n') = b0
    generalize (k == k') = b1 at *
    generalize decide (es = es') = b2 at *
    cases b0 with
    | false => simp only [Bool.not_false, if_true, Sem.run_pure, Bool.false_and]
    | true =>
      simp only [Bool.not_true, Bool.false_eq_true, if_false, Sem.run_bind, p1, Result.andThen_ok, e0', Bool.true_and]
      cases b1 with
      | false => simp only [Bool.not_false, if_true, Sem.run_pure, Bool.false_and]
      | true =>
        exact eq_tail q2 q2' e2'
  · simp at hF
theorem eqC {c d : Col} {ox oy : Operand} {K : Bool → Prop} (hc : c.Ok) (hd : d.Ok) (hK : K (decide (c = d))) : QAll Try.prog (do eqGuard .eql tC ox oy c.val d.val; binOp .eql tC c.val d.val) .bool K :=
  ⟨_, fun w => by
    have hg : (eqGuard .eql tC ox oy c.val d.val).run Try.prog w = .ok () w := run_eqGuard_agg w .eql tC ox oy _ _ guardC
    rw [Sem.run_bind, hg, Result.andThen_ok]
    unfold Col.val
    rw [run_eql_struct]
    have := run_equalIn_col 9996 c d hc hd w
    unfold Col.val at this
    rw [this]
    rfl, hK⟩
theorem neC {c d : Col} {ox oy : Operand} {K : Bool → Prop} (hc : c.Ok) (hd : d.Ok) (hK : K (!decide (c = d))) : QAll Try.prog (do eqGuard .neq tC ox oy c.val d.val; binOp .neq tC c.val d.val) .bool K :=
  ⟨_, fun w => by
    have hg : (eqGuard .neq tC ox oy c.val d.val).run Try.prog w = .ok () w := run_eqGuard_agg w .neq tC ox oy _ _ guardC
    rw [Sem.run_bind, hg, Result.andThen_ok]
    unfold Col.val
    rw [run_neq_struct]
    have := run_equalIn_col 9996 c d hc hd w
    unfold Col.val at this
    rw [this]
    rfl, hK⟩
end Go.Proofs.Ytdkodhonaoecnaa
