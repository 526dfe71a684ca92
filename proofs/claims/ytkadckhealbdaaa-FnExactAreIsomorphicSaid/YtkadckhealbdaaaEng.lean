/- The engine: a functional reading W of a function's code as a statement over memory, and the proof that what W says, the machine does. No condition. -/
import Derived.OrdersHeld
import Derived.Deep.RegionHeld3
import Derived.Deep.LoopGhost
import Derived.Below
import Derived.Deep.Draws
import Derived.Tactics
import Derived.KernelRfl
namespace Go.Proofs.Ytkadckhealbdaaa.Eng
open Go Go.RowKit

/-! ### Kinds of values and of results -/
inductive TK where
  | int (k : IntKind) | bool | str | any
abbrev TK.T : TK → Type
  | .int _ => Int | .bool => Bool | .str => ByteArray | .any => Value
abbrev TK.val : (t : TK) → t.T → Value
  | .int k, n => .int k n | .bool, x => .bool x | .str, x => .string x | .any, x => x
inductive RT where
  | one (t : TK) | two (a b : TK) | three (a b c : TK) | unit
abbrev RT.T : RT → Type
  | .one t => t.T | .two a b => a.T × b.T | .three a b c => a.T × b.T × c.T | .unit => Unit
abbrev RT.val : (t : RT) → t.T → Value
  | .one t, x => t.val x
  | .two a b, x => .tuple #[a.val x.1, b.val x.2]
  | .three a b c, x => .tuple #[a.val x.1, b.val x.2.1, c.val x.2.2]
  | .unit, _ => .tuple #[]
/-- A row of kinds, by type numbers. -/
def RT.at (l : List RT) (t : Nat) : RT := l.getD t (.one .any)
def RT.tk : RT → TK
  | .one t => t | _ => .any

/-! ### What is asked of memory -/
structure Fc (P : Program) (f : FuncId) (args : Array Value) (w : World) (t : RT) (K : t.T → World → Prop) : Prop where
  ent : ∀ args w, (callFunc f args).run P w = .ok (.enter f args) w
  run : Calls P f args w (fun e w' => ∃ x, e = .returned (t.val x) ∧ K x w')
def callV (P : Program) (fv : Value) (args : Array Value) (w : World) (t : RT) (K : t.T → World → Prop) : Prop :=
  match fv with
  | .func (.func f) first cap => Fc P f (first ++ args ++ cap) w t K
  | _ => False
structure Pr (P : Program) (s : Sem Value) (w : World) (t : RT) (K : t.T → World → Prop) : Prop where
  ex : ∃ x w', s.run P w = .ok (t.val x) w' ∧ K x w'
structure PrU (P : Program) (s : Sem Unit) (w : World) (K : World → Prop) : Prop where
  ex : ∃ w', s.run P w = .ok () w' ∧ K w'
/-- In whatever world it yields this, and nothing turns. -/
structure QAll (P : Program) (s : Sem Value) (t : TK) (K : t.T → Prop) : Prop where
  ex : ∃ x, (∀ w, s.run P w = .ok (t.val x) w) ∧ K x
/-- In every world that keeps what this one has, it yields this, and nothing turns. -/
structure QSub (P : Program) (s : Sem Value) (w : World) (t : TK) (K : t.T → Prop) : Prop where
  ex : ∃ x, (∀ w', Below w.heap.size w w' → s.run P w' = .ok (t.val x) w') ∧ K x
structure Keeps (w w' : World) (K : Prop) : Prop where
  below : Below w.heap.size w w'
  k : K
def splitB (b : Bool) (K : Bool → Prop) : Prop := (b = true → K true) ∧ (b = false → K false)

/-! ### Frames -/
inductive SV where
  | lit (b : Bool) | val (v : Value)
def SV.den : SV → Value
  | .lit b => .bool b | .val v => v
def getS : List SV → Nat → SV
  | [], _ => .val undef
  | x :: _, 0 => x
  | _ :: l, n + 1 => getS l n
def setS : List SV → Nat → SV → List SV
  | [], _, _ => []
  | _ :: l, 0, v => v :: l
  | x :: l, n + 1, v => x :: setS l n v
def putS (fr : List SV) (d : Option Tmp) (v : SV) : List SV :=
  match d with | some d => setS fr d v | none => fr
def act (fr : List SV) : Act := { tmps := (fr.map SV.den).toArray, defers := [] }
def evS (fr : List SV) : Operand → SV
  | .tmp t => getS fr t
  | .const (.bool b) => .lit b
  | .const v => .val v
  | .global g => .val (.pointer (some ⟨g, 0, none⟩))
  | .func f => .val (.func (.func f) #[] #[])
def evV (fr : List SV) (x : Operand) : Value := (evS fr x).den
def evs (fr : List SV) : List Operand → List Value
  | [] => []
  | x :: l => evV fr x :: evs fr l

theorem getS_den : ∀ (fr : List SV) (t : Nat), (getS fr t).den = (fr.map SV.den).toArray.getD t undef
  | [], t => by simp [getS, SV.den]
  | x :: l, 0 => by simp [getS]
  | x :: l, n + 1 => by
    have := getS_den l n
    simp only [getS, this]
    simp
theorem act_eval (fr : List SV) (x : Operand) : (act fr).eval x = evV fr x := by
  cases x with
  | tmp t => simp only [Act.eval, act, evV, evS]; exact (getS_den fr t).symm
  | const v => cases v <;> rfl
  | global g => rfl
  | func f => rfl
theorem setS_den : ∀ (fr : List SV) (d : Nat) (v : SV), (setS fr d v).map SV.den = (fr.map SV.den).set d v.den
  | [], _, _ => rfl
  | _ :: _, 0, _ => rfl
  | x :: l, n + 1, v => by simp [setS, setS_den l n v]
theorem act_put (fr : List SV) (d : Option Tmp) (v : SV) : act (putS fr d v) = (act fr).put d v.den := by
  cases d with
  | none => rfl
  | some d => simp [putS, act, Act.put, setS_den, List.setIfInBounds_toArray]
theorem evs_map (fr : List SV) : ∀ l : List Operand, evs fr l = l.map (act fr).eval
  | [] => rfl
  | x :: l => by simp [evs, evs_map fr l, act_eval]
theorem evs_arr (fr : List SV) (a : Array Operand) : a.map (act fr).eval = (evs fr a.toList).toArray := by
  rw [evs_map, ← Array.toList_map, Array.toArray_toList]

/-! ### Operations -/
def sameK : IntKind → IntKind → Bool
  | .i8, .i8 | .i16, .i16 | .i32, .i32 | .i64, .i64 | .u8, .u8 | .u16, .u16 | .u32, .u32 | .u64, .u64 => true
  | _, _ => false
theorem sameK_eq {k k' : IntKind} (h : sameK k k' = true) : k = k' := by cases k <;> cases k' <;> first | rfl | cases h
def isInt : RT → Bool
  | .one (.int _) => true
  | _ => false
/-- Those that only look: they need no order among themselves. -/
def quietOp (ty : List RT) (o : Oper) : Bool :=
  match o.op with
  | .move _ | .assign _ | .pick .. | .makeFunc .. | .extract .. | .unOp .. | .binOp .. | .load .. | .indexAddr .. | .fieldAddr .. | .field .. | .index .. | .slice .. | .nilCheck _ => true
  | .convert _ d _ => isInt (RT.at ty d)
  | .call { callee := .builtin b, .. } => match b with | .len | .cap | .min | .max => true | _ => false
  | _ => false
/-- Of these, those that look into memory. -/
def loadOp (o : Oper) : Bool :=
  match o.op with
  | .load .. => true
  | _ => false
def binQ (op : BinOp) (K : SV → Prop) : Value → Value → Prop
  | .int k a, .int k' b =>
    match op with
    | .add => bif sameK k k' then K (.val (.int k (k.wrap (a + b)))) else False
    | .sub => bif sameK k k' then K (.val (.int k (k.wrap (a - b)))) else False
    | .mul => bif sameK k k' then K (.val (.int k (k.wrap (a * b)))) else False
    | .quo => bif sameK k k' then b ≠ 0 ∧ K (.val (.int k (k.wrap (a.tdiv b)))) else False
    | .rem => bif sameK k k' then b ≠ 0 ∧ K (.val (.int k (a.tmod b))) else False
    | .eql => bif sameK k k' then K (.val (.bool (a == b))) else False
    | .neq => bif sameK k k' then K (.val (.bool (a != b))) else False
    | .lss => bif sameK k k' then K (.val (.bool (decide (a < b)))) else False
    | .leq => bif sameK k k' then K (.val (.bool (decide (a ≤ b)))) else False
    | .gtr => bif sameK k k' then K (.val (.bool (decide (a > b)))) else False
    | .geq => bif sameK k k' then K (.val (.bool (decide (a ≥ b)))) else False
    | .shl => 0 ≤ b ∧ K (.val (.int k (k.wrap (a * 2 ^ min b.toNat k.bits))))
    | .shr => 0 ≤ b ∧ K (.val (.int k (a.fdiv (2 ^ min b.toNat k.bits))))
    | .and => bif sameK k k' then K (.val (.int k (k.wrap (BitVec.ofInt k.bits a &&& BitVec.ofInt k.bits b).toNat))) else False
    | .or => bif sameK k k' then K (.val (.int k (k.wrap (BitVec.ofInt k.bits a ||| BitVec.ofInt k.bits b).toNat))) else False
    | .xor => bif sameK k k' then K (.val (.int k (k.wrap (BitVec.ofInt k.bits a ^^^ BitVec.ofInt k.bits b).toNat))) else False
    | .andNot => bif sameK k k' then K (.val (.int k (k.wrap (BitVec.ofInt k.bits a &&& ~~~(BitVec.ofInt k.bits b)).toNat))) else False
  | _, _ => False
def pickQ (K : SV → Prop) (x y : SV) : SV → Prop
  | .lit true => K x
  | .lit false => K y
  | .val (.bool b) => K (.val (bif b then x.den else y.den))
  | _ => False
def notQ (K : SV → Prop) : SV → Prop
  | .lit b => K (.lit (!b))
  | .val (.bool b) => K (.val (.bool (!b)))
  | _ => False
def unQ (P : Program) (op : UnOp) (t : TK) (K : SV → Prop) (x : SV) : Prop :=
  match op with
  | .not => notQ K x
  | op => QAll P (Op.unary op x.den) t fun r => K (.val (t.val r))
def extractQ (K : SV → Prop) (i : Nat) : Value → Prop
  | .tuple vs => match vs[i]? with | some v => K (.val v) | none => False
  | _ => False
def convQ (P : Program) (src dst : TypeId) (K : SV → Prop) : RT → Value → Prop
  | .one (.int k), .int k' n => QAll P (convert src dst (.int k' n)) (.int k) fun r => K (.val (.int k r))
  | _, _ => False
def optV (fr : List SV) : Option Operand → Option Value
  | none => none
  | some x => some (evV fr x)
/-- A pointer, or a function, that is not nil. -/
def NilOk (p : Value) : Prop := (∃ a, p = .pointer (some a)) ∨ (∃ f a b, p = .func (.func f) a b)
/-- A quiet operation: what it yields goes on. -/
def opQ (P : Program) (ty : List RT) (o : Oper) (fr : List SV) (w : World) (K : SV → Prop) : Prop :=
  match o.op with
  | .move x => K (evS fr x)
  | .assign x => K (evS fr x)
  | .pick c x y => pickQ K (evS fr x) (evS fr y) (evS fr c)
  | .makeFunc fn first cap => K (.val (.func fn (evs fr first.toList).toArray (evs fr cap.toList).toArray))
  | .extract x i => extractQ K i (evV fr x)
  | .unOp op _ x => unQ P op (RT.at ty o.type).tk K (evS fr x)
  | .binOp op xt x y _ => bif isInt (RT.at ty xt) then binQ op K (evV fr x) (evV fr y)
      else QAll P (do eqGuard op xt x y (evV fr x) (evV fr y); binOp op xt (evV fr x) (evV fr y)) (RT.at ty o.type).tk fun r => K (.val ((RT.at ty o.type).tk.val r))
  | .convert s d x => convQ P s d K (RT.at ty d) (evV fr x)
  | .load t p => QSub P (Instr.loadAt t (evV fr p)) w (RT.at ty o.type).tk fun r => K (.val ((RT.at ty o.type).tk.val r))
  | .indexAddr t x i => QAll P (Instr.indexAt t (evV fr x) (evV fr i)) .any fun r => K (.val r)
  | .fieldAddr s x f => QAll P (Instr.fieldAt s (evV fr x) f) .any fun r => K (.val r)
  | .field t x f => QAll P (Instr.field t (evV fr x) f) (RT.at ty o.type).tk fun r => K (.val ((RT.at ty o.type).tk.val r))
  | .index t x i => QAll P (Instr.index t (evV fr x) (evV fr i)) (RT.at ty o.type).tk fun r => K (.val ((RT.at ty o.type).tk.val r))
  | .slice t x lo hi mx => QAll P (Instr.sliceAt t (evV fr x) (optV fr lo) (optV fr hi) (optV fr mx)) (RT.at ty o.type).tk fun r => K (.val ((RT.at ty o.type).tk.val r))
  | .nilCheck x => NilOk (evV fr x) ∧ K (.val (evV fr x))
  | .call c => match c.callee with
    | .builtin .len => QAll P (Builtin.len_ c.argTypes o.type (evs fr c.args.toList).toArray) (.int .i64) fun r => K (.val (.int .i64 r))
    | .builtin .cap => QAll P (Builtin.cap_ c.argTypes o.type (evs fr c.args.toList).toArray) (.int .i64) fun r => K (.val (.int .i64 r))
    | .builtin .min => QAll P (Builtin.min_ c.argTypes o.type (evs fr c.args.toList).toArray) (RT.at ty o.type).tk fun r => K (.val ((RT.at ty o.type).tk.val r))
    | .builtin .max => QAll P (Builtin.max_ c.argTypes o.type (evs fr c.args.toList).toArray) (RT.at ty o.type).tk fun r => K (.val ((RT.at ty o.type).tk.val r))
    | _ => False
  | _ => False

theorem run_val (P : Program) (s : Sem Value) (w w' : World) (v : Value) (h : s.run P w = .ok v w') :
    (do let v ← s; pure (.value v) : Sem Next).run P w = .ok (.value v) w' := by
  rw [Sem.run_bind, h]; rfl
theorem quiet_ok {P : Program} {ty : List RT} {o : Oper} {fr : List SV} {w : World} {K : SV → Prop} (h : opQ P ty o fr w K) :
    ∃ v, K v ∧ (∀ w', Below w.heap.size w w' → (execOp (act fr).eval o).run P w' = .ok (.value v.den) w') ∧
      (loadOp o = false → ∀ w', (execOp (act fr).eval o).run P w' = .ok (.value v.den) w') := by
  have all : ∀ {s : Sem Value} {t : TK} {G : t.T → Prop}, QAll P s t G → (∀ r, G r → K (.val (t.val r))) → (execOp (act fr).eval o = (do let v ← s; pure (.value v))) →
      ∃ v, K v ∧ (∀ w', Below w.heap.size w w' → (execOp (act fr).eval o).run P w' = .ok (.value v.den) w') ∧
      (loadOp o = false → ∀ w', (execOp (act fr).eval o).run P w' = .ok (.value v.den) w') := by
    rintro s t G ⟨r, hr, hG⟩ hK he
    have run : ∀ w', (execOp (act fr).eval o).run P w' = .ok (.value (t.val r)) w' := fun w' => by
      rw [he]; exact run_val P s w' w' _ (hr w')
    exact ⟨_, hK r hG, fun w' _ => run w', fun _ w' => run w'⟩
  have now : ∀ {v : SV}, K v → (∀ w', (execOp (act fr).eval o).run P w' = .ok (.value v.den) w') →
      ∃ v, K v ∧ (∀ w', Below w.heap.size w w' → (execOp (act fr).eval o).run P w' = .ok (.value v.den) w') ∧
      (loadOp o = false → ∀ w', (execOp (act fr).eval o).run P w' = .ok (.value v.den) w') :=
    fun hK run => ⟨_, hK, fun w' _ => run w', fun _ w' => run w'⟩
  obtain ⟨dst, op, type, pos, after, guard⟩ := o
  cases op with
  | move x => exact now h fun w' => by simp only [execOp, act_eval]; rfl
  | assign x => exact now h fun w' => by simp only [execOp, act_eval]; rfl
  | pick c x y =>
    simp only [opQ] at h
    have hc : (act fr).eval c = (evS fr c).den := act_eval fr c
    have hx : (act fr).eval x = (evS fr x).den := act_eval fr x
    have hy : (act fr).eval y = (evS fr y).den := act_eval fr y
    generalize evS fr c = sc at *
    unfold pickQ at h
    split at h
    · exact now h fun w' => by simp only [execOp, hc, hx]; rfl
    · exact now h fun w' => by simp only [execOp, hc, hy]; rfl
    · rename_i b
      exact now h fun w' => by simp only [execOp, hc, hx, hy]; cases b <;> rfl
    · exact h.elim
  | makeFunc fn first cap => exact now h fun w' => by simp only [execOp, evs_arr]; rfl
  | extract x i =>
    simp only [opQ] at h
    have hx : (act fr).eval x = evV fr x := act_eval fr x
    generalize evV fr x = v at *
    unfold extractQ at h
    split at h
    · split at h
      · rename_i vs v hv
        exact now h fun w' => by simp only [execOp, hx]; exact run_val P _ _ _ _ (by simp only [Instr.extract, hv]; rfl)
      · exact h.elim
    · exact h.elim
  | unOp op t x =>
    simp only [opQ] at h
    have hx : (act fr).eval x = (evS fr x).den := act_eval fr x
    generalize evS fr x = sx at *
    unfold unQ at h
    split at h
    · unfold notQ at h
      split at h
      · exact now h fun w' => by simp only [execOp, hx]; exact run_val P _ _ _ _ rfl
      · exact now h fun w' => by simp only [execOp, hx]; exact run_val P _ _ _ _ rfl
      · exact h.elim
    · exact all h (fun r hr => hr) (by simp only [execOp, hx])
  | binOp op xt x y yt =>
    simp only [opQ] at h
    have hx : (act fr).eval x = evV fr x := act_eval fr x
    have hy : (act fr).eval y = evV fr y := act_eval fr y
    generalize evV fr x = vx at *
    generalize evV fr y = vy at *
    have guardOk : ∀ (op : BinOp) k a k' b (w' : World), (eqGuard op xt x y (.int k a) (.int k' b)).run P w' = .ok () w' := by
      intro op k a k' b w'
      cases op <;> rfl
    cases hi : isInt (RT.at ty xt) with
    | false => rw [hi] at h; exact all h (fun r hr => hr) (by simp only [execOp, hx, hy])
    | true =>
    rw [hi] at h
    simp only [cond_true] at h
    unfold binQ at h
    split at h
    · rename_i k a k' b
      have fin : ∀ {v : Value}, K (.val v) → (∀ w', (binOp op xt (.int k a) (.int k' b)).run P w' = .ok v w') → _ := fun {v} hK run => now (v := .val v) hK fun w' => by
        simp only [execOp, hx, hy]
        refine run_val P _ _ _ _ ?_
        rw [Sem.run_bind, guardOk]
        exact run w'
      split at h <;> first
        | (cases hk : sameK k k' with
            | true =>
              rw [hk] at h
              obtain rfl := sameK_eq hk
              first
                | exact fin h fun w' => by simp [binOp, Op.intArith, Op.intCmp, Op.intBits]
                | exact fin h.2 fun w' => by simp [binOp, Op.intDiv, h.1]
            | false => rw [hk] at h; exact h.elim)
        | exact fin h.2 fun w' => by simp [binOp, Op.shift, Int.not_lt.mpr h.1]
    · exact h.elim
  | convert s d x =>
    simp only [opQ] at h
    have hx : (act fr).eval x = evV fr x := act_eval fr x
    generalize evV fr x = vx at *
    unfold convQ at h
    split at h
    · exact all h (fun r hr => hr) (by simp only [execOp, hx])
    · exact h.elim
  | load t p =>
    obtain ⟨r, hr, hK⟩ := h
    refine ⟨_, hK, fun w' hw => ?_, fun hl => by cases hl⟩
    simp only [execOp, act_eval]
    exact run_val P _ _ _ _ (hr w' hw)
  | indexAddr t x i => exact all h (fun r hr => hr) (by simp only [execOp, act_eval])
  | fieldAddr s x f => exact all h (fun r hr => hr) (by simp only [execOp, act_eval])
  | field t x f => exact all h (fun r hr => hr) (by simp only [execOp, act_eval])
  | index t x i => exact all h (fun r hr => hr) (by simp only [execOp, act_eval])
  | slice t x lo hi mx =>
    have hm : ∀ q : Option Operand, q.map (act fr).eval = optV fr q := fun q => by cases q <;> simp [optV, act_eval]
    exact all h (fun r hr => hr) (by simp only [execOp, act_eval, hm])
  | nilCheck x =>
    have hx : (act fr).eval x = evV fr x := act_eval fr x
    obtain ⟨h, hK⟩ := h
    rcases h with ⟨a, ha⟩ | ⟨f, a, b, ha⟩
    · exact now hK fun w' => by simp only [execOp, hx, SV.den, ha]; rfl
    · exact now hK fun w' => by simp only [execOp, hx, SV.den, ha]; rfl
  | call c =>
    obtain ⟨callee, args, argTypes⟩ := c
    cases callee with
    | builtin b =>
      cases b <;> first | exact h.elim | exact all h (fun r hr => hr) (by simp only [execOp, resolve, evs_arr, pure_bind, invoke, builtin])
    | value f => exact h.elim
    | invoke r m => exact h.elim
  | _ => exact h.elim

/-! ### Operations that act -/
def evPairs (fr : List SV) : List (Nat × Operand) → List (Nat × Value)
  | [] => []
  | (i, x) :: l => (i, evV fr x) :: evPairs fr l
theorem evPairs_arr (fr : List SV) (a : Array (Nat × Operand)) : (a.map fun (i, x) => (i, (act fr).eval x)) = (evPairs fr a.toList).toArray := by
  have : ∀ l : List (Nat × Operand), evPairs fr l = l.map fun (i, x) => (i, (act fr).eval x) := fun l => by
    induction l with
    | nil => rfl
    | cons x l ih => obtain ⟨i, x⟩ := x; simp [evPairs, ih, act_eval]
  rw [this, ← Array.toList_map, Array.toArray_toList]
def builtinL (c : Go.Call) (type : TypeId) (args : Array Value) : Builtin → Sem Value
  | .append => Builtin.append_ c.argTypes type args
  | .copy => Builtin.copy_ c.argTypes type args
  | .delete => Builtin.delete_ c.argTypes type args
  | .clear => Builtin.clear_ c.argTypes type args
  | .len => Builtin.len_ c.argTypes type args
  | _ => stuck "builtinL"
def isL : Builtin → Bool
  | .append | .copy | .delete | .clear => true
  | _ => false
/-- An operation in its place: whatever it does, what follows goes on from there. -/
def opL (P : Program) (ty : List RT) (o : Oper) (fr : List SV) (w : World) (K : List SV → World → Prop) : Prop :=
  match o.op with
  | .call c => match c.callee with
    | .value f => callV P (evV fr f) (evs fr c.args.toList).toArray w (RT.at ty o.type) fun x w' => K (putS fr o.dst (.val ((RT.at ty o.type).val x))) w'
    | .builtin b => bif isL b then Pr P (builtinL c o.type (evs fr c.args.toList).toArray b) w (RT.at ty o.type) fun x w' => K (putS fr o.dst (.val ((RT.at ty o.type).val x))) w'
        else opQ P ty o fr w fun v => K (putS fr o.dst v) w
    | _ => False
  | .store t a x => PrU P (Instr.storeAt t (evV fr a) (evV fr x)) w fun w' => K (putS fr o.dst (.val undef)) w'
  | .mapUpdate t m k x => PrU P (Instr.mapUpdate t (evV fr m) (evV fr k) (evV fr x)) w fun w' => K (putS fr o.dst (.val undef)) w'
  | .insert t m k x => PrU P (Instr.mapUpdate t (evV fr m) (evV fr k) (evV fr x)) w fun w' => K (putS fr o.dst (.val undef)) w'
  | .alloc e => Pr P (Instr.alloc e true (.tuple #[])) w (.one .any) fun x w' => K (putS fr o.dst (.val x)) w'
  | .box e x => Pr P (Instr.box e (evV fr x)) w (.one .any) fun x w' => K (putS fr o.dst (.val x)) w'
  | .build t ps => Pr P (Instr.build t (evPairs fr ps.toList).toArray) w (.one .any) fun x w' => K (putS fr o.dst (.val x)) w'
  | .buildSlice t n ps => Pr P (Instr.buildSlice t n (evPairs fr ps.toList).toArray) w (.one .any) fun x w' => K (putS fr o.dst (.val x)) w'
  | .makeSlice t n c => Pr P (Instr.makeSlice t (evV fr n) (evV fr c)) w (.one .any) fun x w' => K (putS fr o.dst (.val x)) w'
  | .makeMap t r => Pr P (Instr.makeMap t (optV fr r)) w (.one .any) fun x w' => K (putS fr o.dst (.val x)) w'
  | .lookup t x k ok => Pr P (Instr.lookup t (evV fr x) (evV fr k) ok) w (RT.at ty o.type) fun x w' => K (putS fr o.dst (.val ((RT.at ty o.type).val x))) w'
  | .convert a b x => bif isInt (RT.at ty b) then opQ P ty o fr w fun v => K (putS fr o.dst v) w
      else Pr P (convert a b (evV fr x)) w (RT.at ty o.type) fun x w' => K (putS fr o.dst (.val ((RT.at ty o.type).val x))) w'
  | _ => opQ P ty o fr w fun v => K (putS fr o.dst v) w

theorem run_unit (P : Program) (s : Sem Unit) (w w' : World) (h : s.run P w = .ok () w') :
    (do s; pure .skip : Sem Next).run P w = .ok .skip w' := by
  rw [Sem.run_bind, h]; rfl
theorem opL_ok {P : Program} {ty : List RT} {o : Oper} {fr : List SV} {w : World} {K : List SV → World → Prop} {K' : Act → World → Prop} {Q : Exit → Act → World → Prop}
    (hK : ∀ fr w, K fr w → K' (act fr) w) (h : opL P ty o fr w K) : o.wp P (act fr) w K' Q := by
  have value : ∀ {v : Value} {w' : World}, (execOp (act fr).eval o).run P w = .ok (.value v) w' → K (putS fr o.dst (.val v)) w' → o.wp P (act fr) w K' Q := fun {v w'} hr hk => by
    unfold Oper.wp; rw [hr]; simp only [Oper.upon]
    have := hK _ _ hk
    rwa [act_put] at this
  have quiet : opQ P ty o fr w (fun v => K (putS fr o.dst v) w) → o.wp P (act fr) w K' Q := fun hq => by
    obtain ⟨v, hk, hr, _⟩ := quiet_ok hq
    unfold Oper.wp; rw [hr w (Below.refl _ _)]; simp only [Oper.upon]
    have := hK _ _ hk
    rwa [act_put] at this
  have pr : ∀ {s : Sem Value} {t : RT}, (execOp (act fr).eval o = (do let v ← s; pure (.value v))) → Pr P s w t (fun x w' => K (putS fr o.dst (.val (t.val x))) w') → o.wp P (act fr) w K' Q := by
    rintro s t he ⟨x, w', hr, hk⟩
    exact value (by rw [he]; exact run_val P _ _ _ _ hr) hk
  have pru : ∀ {s : Sem Unit}, (execOp (act fr).eval o = (do s; pure .skip)) → PrU P s w (fun w' => K (putS fr o.dst (.val undef)) w') → o.wp P (act fr) w K' Q := by
    rintro s he ⟨w', hr, hk⟩
    unfold Oper.wp; rw [he, run_unit P _ _ _ hr]; simp only [Oper.upon]
    have := hK _ _ hk
    rwa [act_put] at this
  obtain ⟨dst, op, type, pos, after, guard⟩ := o
  cases op with
  | call c =>
    obtain ⟨callee, args, argTypes⟩ := c
    cases callee with
    | value f =>
      simp only [opL, callV] at h
      split at h
      · rename_i fv g first cap hf
        obtain ⟨ent, run⟩ := h
        have hr : (execOp (act fr).eval ⟨dst, .call ⟨.value f, args, argTypes⟩, type, pos, after, guard⟩).run P w = .ok (.enter g (first ++ (evs fr args.toList).toArray ++ cap)) w := by
          simp only [execOp, resolve, evs_arr, act_eval, hf, Deferred.ofValue, pure_bind, invoke]
          exact ent _ _
        unfold Oper.wp; rw [hr]; simp only [Oper.upon]
        refine run.mono ?_
        rintro e w' ⟨x, rfl, hk⟩
        have := hK _ _ hk
        rwa [act_put] at this
      · exact h.elim
    | builtin b =>
      simp only [opL] at h
      cases hb : isL b with
      | true =>
        rw [hb] at h
        simp only [cond_true] at h
        refine pr ?_ h
        cases b <;> first | cases hb; done | simp only [execOp, resolve, evs_arr, pure_bind, invoke, builtin, builtinL]
      | false =>
        rw [hb] at h
        exact quiet h
    | invoke r m => exact h.elim
  | store t a x => exact pru (by simp only [execOp, act_eval]) h
  | mapUpdate t m k x => exact pru (by simp only [execOp, act_eval]) h
  | insert t m k x => exact pru (by simp only [execOp, act_eval]) h
  | alloc e => exact pr (t := .one .any) (by simp only [execOp]) h
  | box e x => exact pr (t := .one .any) (by simp only [execOp, act_eval]) h
  | build t ps => exact pr (t := .one .any) (by simp only [execOp, evPairs_arr]) h
  | buildSlice t n ps => exact pr (t := .one .any) (by simp only [execOp, evPairs_arr]) h
  | makeSlice t n c => exact pr (t := .one .any) (by simp only [execOp, act_eval]) h
  | makeMap t r =>
    have hm : ∀ q : Option Operand, q.map (act fr).eval = optV fr q := fun q => by cases q <;> simp [optV, act_eval]
    exact pr (t := .one .any) (by simp only [execOp, hm]) h
  | lookup t x k ok => exact pr (by simp only [execOp, act_eval]) h
  | convert a b x =>
    simp only [opL] at h
    cases hb : isInt (RT.at ty b) with
    | true => rw [hb] at h; exact quiet h
    | false => rw [hb] at h; exact pr (by simp only [execOp, act_eval]) h
  | _ => exact quiet h

/-! ### A row of operations, one behind the other -/
def wantedW (ops : Array Oper) (o : Oper) (fr : List SV) : Option Bool :=
  match o.guard with
  | none => some true
  | some (j, want) => match (ops[j]?).bind (·.dst) with
    | some t => match getS fr t with
      | .lit b => some (b == want)
      | .val (.tuple _) => some false
      | _ => none
    | none => none
def guardSrc (ops : Array Oper) (i : Nat) : Bool := ops.toList.any fun o => match o.guard with | some (j, _) => j == i | none => false
def splitFr (g : Bool) (d : Option Tmp) (fr : List SV) (K : List SV → Prop) : Prop :=
  match g, d with
  | true, some d => match getS fr d with
    | .val (.bool b) => splitB b fun b => K (setS fr d (.lit b))
    | _ => K fr
  | _, _ => K fr
def WL (P : Program) (ty : List RT) (ops : Array Oper) (K : List SV → World → Prop) : Nat → List Oper → List SV → World → Prop
  | _, [], fr, w => K fr w
  | i, o :: rest, fr, w => match wantedW ops o fr with
    | some true => opL P ty o fr w fun fr' w' => splitFr (guardSrc ops i) o.dst fr' fun fr'' => WL P ty ops K (i + 1) rest fr'' w'
    | some false => WL P ty ops K (i + 1) rest (putS fr o.dst (.val undef)) w
    | none => False

theorem map_set_same : ∀ (l : List SV) (d : Nat) (v : SV), v.den = (getS l d).den → (setS l d v).map SV.den = l.map SV.den
  | [], _, _, _ => rfl
  | x :: l, 0, v, h => by simp only [setS, List.map_cons]; rw [h]; rfl
  | x :: l, n + 1, v, h => by simp only [setS, List.map_cons]; rw [map_set_same l n v h]
theorem splitFr_ok {g : Bool} {d : Option Tmp} {fr : List SV} {K : List SV → Prop} {G : Act → Prop} (hK : ∀ fr, K fr → G (act fr)) (h : splitFr g d fr K) : G (act fr) := by
  unfold splitFr at h
  split at h
  · rename_i d
    split at h
    · rename_i b hb
      have same : ∀ c, b = c → act (setS fr d (.lit c)) = act fr := fun c hc => by
        unfold act
        rw [map_set_same fr d (.lit c) (by rw [hb]; simp [SV.den, hc])]
      cases b with
      | true => have := hK _ (h.1 rfl); rwa [same true rfl] at this
      | false => have := hK _ (h.2 rfl); rwa [same false rfl] at this
    · exact hK _ h
  · exact hK _ h
theorem wantedW_ok {ops : Array Oper} {o : Oper} {fr : List SV} {b : Bool} (h : wantedW ops o fr = some b) : Region.wanted o (yielded ops (act fr).tmps) = b := by
  unfold wantedW at h
  unfold Region.wanted
  split at h
  · rename_i hg; rw [hg]; exact Option.some.inj h
  · rename_i j want hg
    rw [hg]
    simp only
    split at h
    · rename_i t ht
      split at h
      · rename_i c hc
        have hy : yielded ops (act fr).tmps j = some c := by
          unfold yielded
          rw [ht]
          have h1 : (act fr).tmps.getD t undef = .bool c := by
            show (fr.map SV.den).toArray.getD t undef = _
            rw [← getS_den, hc]; rfl
          have h2 : (act fr).tmps[t]? = some (.bool c) := by
            cases hq : (act fr).tmps[t]? with
            | none => rw [Array.getD_eq_getD_getElem?, hq] at h1; simp [undef] at h1
            | some x => rw [Array.getD_eq_getD_getElem?, hq] at h1; simpa using h1
          simp [h2]
        rw [hy]
        have := Option.some.inj h
        rw [← this]
        cases c <;> cases want <;> rfl
      · rename_i vs hc
        have hy : yielded ops (act fr).tmps j = none := by
          unfold yielded
          rw [ht]
          have h1 : (act fr).tmps.getD t undef = .tuple vs := by
            show (fr.map SV.den).toArray.getD t undef = _
            rw [← getS_den, hc]; rfl
          cases hq : (act fr).tmps[t]? with
          | none => simp [hq]
          | some x => rw [Array.getD_eq_getD_getElem?, hq] at h1; simp at h1; simp [hq, h1]
        rw [hy]
        have := Option.some.inj h
        rw [← this]
        rfl
      · cases h
    · cases h
theorem WL_ok {P : Program} {ty : List RT} {ops : Array Oper} {K : List SV → World → Prop} {Q : Exit → Act → World → Prop} (hK : ∀ fr w, K fr w → Q .normal (act fr) w) :
    ∀ (l : List Oper) (i : Nat) (fr : List SV) (w : World), WL P ty ops K i l fr w → wpList P ops Q l (act fr) w
  | [], _, fr, w, h => hK fr w h
  | o :: l, i, fr, w, h => by
    unfold WL at h
    split at h
    · rename_i hw
      unfold wpList
      rw [if_pos (wantedW_ok hw)]
      exact .inl (opL_ok (fun fr' w' hk => splitFr_ok (G := fun a => wpList P ops Q l a w') (fun fr'' hk => WL_ok hK l (i + 1) fr'' w' hk) hk) h)
    · rename_i hw
      unfold wpList
      rw [wantedW_ok hw, if_neg (by simp)]
      have := WL_ok hK l (i + 1) _ w h
      rwa [act_put] at this
    · exact h.elim

/-! ### A region that draws its order -/
section
variable {P : Program} {ops : Array Oper} {Q : Exit → Act → World → Prop} {S : World → Prop} {B : Nat → Bool}
/-- Whatever order is picked from here on; behind each operation that B does not name, the world meets S. -/
def wpAnyC (P : Program) (ops : Array Oper) (Q : Exit → Act → World → Prop) (S : World → Prop) (B : Nat → Bool) : Nat → Array Bool → Act → World → Prop
  | 0, listed, a, w => Region.ready .any ops listed = [] ∧ Q .normal a w
  | fuel + 1, listed, a, w =>
    (Region.ready .any ops listed = [] → Q .normal a w) ∧
    ∀ i ∈ Region.ready .any ops listed, wpOp P ops Q i (fun a' w' => (B i = true → wpAny P .any ops Q fuel (listed.setIfInBounds i true) a' w') ∧
      (B i = false → S w' ∧ wpAnyC P ops Q S B fuel (listed.setIfInBounds i true) a' w')) a w
theorem wpAny_of_C : ∀ (fuel : Nat) (listed : Array Bool) (a : Act) (w : World), wpAnyC P ops Q S B fuel listed a w → wpAny P .any ops Q fuel listed a w
  | 0, _, _, _, h => h
  | fuel + 1, _, _, _, h => ⟨h.1, fun i hi => wpOp_mono (fun a' w' h' => by
      cases hb : B i with
      | true => exact h'.1 hb
      | false => exact wpAny_of_C fuel _ a' w' (h'.2 hb).2) (h.2 i hi)⟩
theorem wpAnyC_mono {S' : World → Prop} (hS : ∀ w, S w → S' w) : ∀ (fuel : Nat) (listed : Array Bool) (a : Act) (w : World), wpAnyC P ops Q S B fuel listed a w → wpAnyC P ops Q S' B fuel listed a w
  | 0, _, _, _, h => h
  | fuel + 1, _, _, _, h => ⟨h.1, fun i hi => wpOp_mono (fun a' w' h' => ⟨h'.1, fun hb => ⟨hS _ (h'.2 hb).1, wpAnyC_mono hS fuel _ a' w' (h'.2 hb).2⟩⟩) (h.2 i hi)⟩
theorem not_ready_of_waits {i : Nat} {oj : Oper} {listed : Array Bool} (hi : i ∈ Region.ready .any ops listed)
    (hall : ∀ e ∈ oj.after, Region.binds .any e = true → listed.getD e.on false = true) : ∀ e ∈ oj.after, Region.binds .any e = true → e.on ≠ i := fun e he hb heq => by
  have h1 := hall e he hb
  have h0 := (mem_ready.1 hi).1
  rw [heq] at h1
  rcases Nat.lt_or_ge i listed.size with h' | h'
  · simp [h'] at h0 h1; rw [h0] at h1; cases h1
  · simp [Array.getElem?_eq_none h'] at h1
theorem free_set {i j : Nat} {oi : Oper} {listed : Array Bool} (hjun : listed.getD j true = false)
    (hfree : ∀ j oj, ops[j]? = some oj → j ≠ i → listed.getD j true = false → (∀ e ∈ oj.after, Region.binds .any e = true → e.on ≠ i) → oi.apart ops oj = true) :
    ∀ k ok, ops[k]? = some ok → k ≠ i → (listed.setIfInBounds j true).getD k true = false → (∀ e ∈ ok.after, Region.binds .any e = true → e.on ≠ i) → oi.apart ops ok = true := fun k ok hk hki hun hno => by
  refine hfree k ok hk hki ?_ hno
  by_cases hjk : j = k
  · subst hjk; exact hjun
  · rw [getD_set_ne true hjk] at hun; exact hun
/-- One that looks into memory may be taken first: whoever turns what S keeps waits for it. -/
theorem takeC {i : Nat} {oi : Oper} {v : Value} (hi : ops[i]? = some oi) (hsel : ∀ (j : Nat) (o : Oper) cs b, ops[j]? = some o → o.op ≠ .select cs b)
    (hQ : ∀ c a w, Q (.panic c) (a.put oi.dst v) w → Q (.panic c) a w)
    (hB : ∀ j oj, ops[j]? = some oj → B j = true → ∃ e ∈ oj.after, Region.binds .any e = true ∧ e.on = i) :
    ∀ (fuel : Nat) (listed : Array Bool) (a : Act) (w : World),
      (∀ j oj, ops[j]? = some oj → j ≠ i → listed.getD j true = false → (∀ e ∈ oj.after, Region.binds .any e = true → e.on ≠ i) → oi.apart ops oj = true) →
      i ∈ Region.ready .any ops listed → YieldsIf P ops S oi v a → S w →
      wpAnyC P ops Q S B fuel (listed.setIfInBounds i true) (a.put oi.dst v) w → wpAnyC P ops Q S B (fuel + 1) listed a w := by
  intro fuel
  induction fuel with
  | zero =>
    intro listed a w _ hr hy hS H
    refine ⟨fun h => (by rw [h] at hr; cases hr), fun j hj => ?_⟩
    by_cases hji : j = i
    · subst hji; exact hy.wpOp hi hS ⟨fun _ => wpAny_of_C _ _ _ _ H, fun _ => ⟨hS, H⟩⟩
    · have := ready_mono hj hji
      rw [H.1] at this
      cases this
  | succ fuel ih =>
    intro listed a w hfree hr hy hS H
    refine ⟨fun h => (by rw [h] at hr; cases hr), fun j hj => ?_⟩
    by_cases hji : j = i
    · subst hji; exact hy.wpOp hi hS ⟨fun _ => wpAny_of_C _ _ _ _ H, fun _ => ⟨hS, H⟩⟩
    · have h1 := H.2 j (ready_mono hj hji)
      obtain ⟨hjun, oj, hoj, hall⟩ := mem_ready.1 hj
      have hnot := not_ready_of_waits hr hall
      have hbj : B j = false := by
        cases hb : B j with
        | false => rfl
        | true =>
          obtain ⟨e, he, hb1, heq⟩ := hB j oj hoj hb
          exact absurd heq (hnot e he hb1)
      have h2 := wpOp_putIf hoj (hfree j oj hoj hji hjun hnot) (fun cs b => hsel i oi cs b hi) (fun cs b => hsel j oj cs b hoj) hQ hy h1
      refine wpOp_mono (fun a' w' h3 => ⟨fun h => (by rw [hbj] at h; cases h), fun _ => ⟨(h3.2.2 hbj).1, ih (listed.setIfInBounds j true) a' w' (free_set hjun hfree) (ready_mono hr (Ne.symm hji)) h3.1 (h3.2.2 hbj).1 ?_⟩⟩) h2
      rw [Array.setIfInBounds_comm _ _ hji]
      exact (h3.2.2 hbj).2
/-- One that yields its value in whatever world may be taken first. -/
theorem takeC_any {i : Nat} {oi : Oper} {v : Value} (hi : ops[i]? = some oi) (hsel : ∀ (j : Nat) (o : Oper) cs b, ops[j]? = some o → o.op ≠ .select cs b)
    (hQ : ∀ c a w, Q (.panic c) (a.put oi.dst v) w → Q (.panic c) a w) :
    ∀ (fuel : Nat) (listed : Array Bool) (a : Act) (w : World),
      (∀ j oj, ops[j]? = some oj → j ≠ i → listed.getD j true = false → (∀ e ∈ oj.after, Region.binds .any e = true → e.on ≠ i) → oi.apart ops oj = true) →
      i ∈ Region.ready .any ops listed → Yields P ops oi v a → S w →
      wpAnyC P ops Q S B fuel (listed.setIfInBounds i true) (a.put oi.dst v) w → wpAnyC P ops Q S B (fuel + 1) listed a w := by
  intro fuel
  induction fuel with
  | zero =>
    intro listed a w _ hr hy hS H
    refine ⟨fun h => (by rw [h] at hr; cases hr), fun j hj => ?_⟩
    by_cases hji : j = i
    · subst hji; exact hy.wpOp hi ⟨fun _ => wpAny_of_C _ _ _ _ H, fun _ => ⟨hS, H⟩⟩
    · have := ready_mono hj hji
      rw [H.1] at this
      cases this
  | succ fuel ih =>
    intro listed a w hfree hr hy hS H
    refine ⟨fun h => (by rw [h] at hr; cases hr), fun j hj => ?_⟩
    by_cases hji : j = i
    · subst hji; exact hy.wpOp hi ⟨fun _ => wpAny_of_C _ _ _ _ H, fun _ => ⟨hS, H⟩⟩
    · have h1 := H.2 j (ready_mono hj hji)
      obtain ⟨hjun, oj, hoj, hall⟩ := mem_ready.1 hj
      have hnot := not_ready_of_waits hr hall
      have h2 := wpOp_put hoj (hfree j oj hoj hji hjun hnot) (fun cs b => hsel i oi cs b hi) (fun cs b => hsel j oj cs b hoj) hQ hy h1
      refine wpOp_mono (fun a' w' h3 => ⟨fun hb => ?_, fun hb => ⟨(h3.2.2 hb).1, ih (listed.setIfInBounds j true) a' w' (free_set hjun hfree) (ready_mono hr (Ne.symm hji)) h3.1 (h3.2.2 hb).1 ?_⟩⟩) h2
      · refine wpAny_first hi hsel hQ fuel (listed.setIfInBounds j true) a' w' (free_set hjun hfree) (ready_mono hr (Ne.symm hji)) h3.1 ?_
        rw [Array.setIfInBounds_comm _ _ hji]
        exact h3.2.1 hb
      · rw [Array.setIfInBounds_comm _ _ hji]
        exact (h3.2.2 hb).2
end
def waitsOn (ops : Array Oper) (j i : Nat) : Bool :=
  match ops[j]? with
  | some oj => oj.after.any fun e => Region.binds .any e && e.on == i
  | none => false
/-- Those that wait for all that look into memory. -/
def lastB (ty : List RT) (ops : Array Oper) (j : Nat) : Bool :=
  (match ops[j]? with | some o => !quietOp ty o | none => false) &&
  (List.range ops.size).all fun i => match ops[i]? with | some o => !loadOp o || waitsOn ops j i | none => true
def pickD (ty : List RT) (ops : Array Oper) (listed : Array Bool) (fr : List SV) : List Nat → Option Nat
  | [] => none
  | i :: r => match ops[i]? with
    | some o => bif ((quietOp ty o || (match wantedW ops o fr with | some false => true | _ => false)) && Region.free .any ops listed i) then some i else pickD ty ops listed fr r
    | none => pickD ty ops listed fr r
def allD (f : Nat → Prop) : List Nat → Prop
  | [] => True
  | [i] => f i
  | i :: j :: r => f i ∧ allD f (j :: r)
/-- Whether one that looks into memory is still to come. -/
def pend (ops : Array Oper) (listed : Array Bool) : Bool :=
  (List.range ops.size).any fun i => match ops[i]? with | some o => loadOp o && !listed.getD i true | none => false
theorem pend_set {ops : Array Oper} {listed : Array Bool} {i : Nat} (h : pend ops (listed.setIfInBounds i true) = true) : pend ops listed = true := by
  unfold pend at h ⊢
  rw [List.any_eq_true] at h ⊢
  obtain ⟨k, hk, hp⟩ := h
  refine ⟨k, hk, ?_⟩
  split at hp
  · rename_i o ho
    simp only [Bool.and_eq_true, Bool.not_eq_true'] at hp ⊢
    refine ⟨hp.1, ?_⟩
    by_cases hik : i = k
    · subst hik
      have := hp.2
      by_cases hl : i < listed.size
      · simp [hl] at this
      · simp [hl] at this
    · rw [getD_set_ne true hik] at hp; exact hp.2
  · cases hp
theorem pend_load {ops : Array Oper} {listed : Array Bool} {i : Nat} {o : Oper} (ho : ops[i]? = some o) (hl : loadOp o = true) (hi : i ∈ Region.ready .any ops listed) : pend ops listed = true := by
  unfold pend
  rw [List.any_eq_true]
  refine ⟨i, List.mem_range.2 (Array.getElem?_eq_some_iff.1 ho).1, ?_⟩
  simp [ho, hl, (mem_ready.1 hi).1]
def sOf : Option World → World → Prop
  | none, _ => True
  | some wr, w => Below wr.heap.size wr w
def keepsO : Option World → World → Prop → Prop
  | none, _, K => K
  | some wr, w', K => Keeps wr w' K
/-- wr: the world that those which are still to look, or have looked, hold on to. -/
def WD (P : Program) (ty : List RT) (ops : Array Oper) (K : List SV → World → Prop) : Nat → Array Bool → List SV → World → Option World → Prop
  | 0, listed, fr, w, _ => bif (Region.ready .any ops listed).isEmpty then K fr w else False
  | n + 1, listed, fr, w, wr =>
    match Region.ready .any ops listed with
    | [] => K fr w
    | i0 :: r => match pickD ty ops listed fr (i0 :: r) with
      | some i => match ops[i]? with
        | some o => match wantedW ops o fr with
          | some true => bif quietOp ty o then opQ P ty o fr w fun v => splitFr (guardSrc ops i) o.dst (putS fr o.dst v) fun fr' => WD P ty ops K n (listed.setIfInBounds i true) fr' w wr else False
          | some false => WD P ty ops K n (listed.setIfInBounds i true) (putS fr o.dst (.val undef)) w wr
          | none => False
        | none => False
      | none => allD (fun i => match ops[i]? with
        | some o => match wantedW ops o fr with
          | some true => opL P ty o fr w fun fr' w' => splitFr (guardSrc ops i) o.dst fr' fun fr'' =>
              bif lastB ty ops i then WD P ty ops K n (listed.setIfInBounds i true) fr'' w' (bif pend ops (listed.setIfInBounds i true) then some w' else none)
              else bif pend ops listed then Keeps w w' (WD P ty ops K n (listed.setIfInBounds i true) fr'' w' (some w'))
              else keepsO wr w' (WD P ty ops K n (listed.setIfInBounds i true) fr'' w' wr)
          | _ => False
        | none => False) (i0 :: r)
theorem allD_all {f : Nat → Prop} : ∀ {l : List Nat}, allD f l → ∀ i ∈ l, f i
  | [], _, _, hi => by cases hi
  | [i], h, j, hj => by simp at hj; subst hj; exact h
  | i :: k :: r, h, j, hj => by
    cases hj with
    | head => exact h.1
    | tail _ hj => exact allD_all h.2 j hj
theorem pickD_ok {ty : List RT} {ops : Array Oper} {listed : Array Bool} {fr : List SV} {i : Nat} : ∀ {l : List Nat}, pickD ty ops listed fr l = some i → i ∈ l ∧ Region.free .any ops listed i = true
  | [], h => by cases h
  | k :: r, h => by
    unfold pickD at h
    split at h
    · rename_i o ho
      generalize hb : ((quietOp ty o || _) && _) = b at h
      cases b with
      | true =>
        have : k = i := Option.some.inj h
        subst this
        exact ⟨List.mem_cons_self, by simp at hb; exact hb.2⟩
      | false => exact ⟨List.mem_cons_of_mem _ (pickD_ok h).1, (pickD_ok h).2⟩
    · exact ⟨List.mem_cons_of_mem _ (pickD_ok h).1, (pickD_ok h).2⟩
theorem lastB_waits {ty : List RT} {ops : Array Oper} {i j : Nat} {oi oj : Oper} (hi : ops[i]? = some oi) (hl : loadOp oi = true) (hj : ops[j]? = some oj) (h : lastB ty ops j = true) :
    ∃ e ∈ oj.after, Region.binds .any e = true ∧ e.on = i := by
  unfold lastB at h
  simp only [Bool.and_eq_true, List.all_eq_true, List.mem_range] at h
  have := h.2 i (Array.getElem?_eq_some_iff.1 hi).1
  simp only [hi, hl, Bool.not_true, Bool.false_or] at this
  unfold waitsOn at this
  rw [hj] at this
  obtain ⟨e, he, hb⟩ := Array.any_eq_true'.1 this
  simp only [Bool.and_eq_true, beq_iff_eq] at hb
  exact ⟨e, he, hb.1, hb.2⟩
theorem WD_ok {P : Program} {ty : List RT} {ops : Array Oper} {K : List SV → World → Prop} {Q : Exit → Act → World → Prop} (hs : Region.noSelect ops = true)
    (hK : ∀ fr w, K fr w → Q .normal (act fr) w) (hQ : ∀ c d v a w, Q (.panic c) (a.put d v) w → Q (.panic c) a w) :
    ∀ (n : Nat) (listed : Array Bool) (fr : List SV) (w : World) (wr : Option World), sOf wr w → (pend ops listed = true → wr = some w) → WD P ty ops K n listed fr w wr → wpAnyC P ops Q (sOf wr) (lastB ty ops) n listed (act fr) w := by
  intro n
  induction n with
  | zero =>
    intro listed fr w wr hwr hpr h
    unfold WD at h
    cases hr : (Region.ready .any ops listed).isEmpty with
    | true => rw [hr] at h; exact ⟨by simpa using hr, hK _ _ h⟩
    | false => rw [hr] at h; exact h.elim
  | succ n ih =>
    intro listed fr w wr hwr hpr h
    unfold WD at h
    split at h
    · rename_i hr
      exact ⟨fun _ => hK _ _ h, by rw [hr]; intro i hi; cases hi⟩
    · rename_i i0 r hr
      split at h
      · rename_i i hp
        obtain ⟨him, hfree⟩ := pickD_ok hp
        rw [← hr] at him
        split at h
        · rename_i o ho
          have hfr := Region.free_spec ho hfree
          split at h
          · rename_i hw
            cases hq : quietOp ty o with
            | false => rw [hq] at h; exact h.elim
            | true =>
              rw [hq] at h
              simp only [cond_true] at h
              obtain ⟨v, hk, hsub, hany⟩ := quiet_ok h
              have hk' : wpAnyC P ops Q (sOf wr) (lastB ty ops) n (listed.setIfInBounds i true) ((act fr).put o.dst v.den) w := by
                rw [← act_put]
                exact splitFr_ok (G := fun a => wpAnyC P ops Q (sOf wr) (lastB ty ops) n (listed.setIfInBounds i true) a w) (fun fr' hk => ih _ _ _ _ hwr (fun hp => hpr (pend_set hp)) hk) hk
              cases hl : loadOp o with
              | true => exact takeC ho (Region.noSelect_spec hs) (fun c a w => hQ c _ _ a w) (fun j oj hj hb => lastB_waits ho hl hj hb) n listed (act fr) w hfr him (.inl ⟨wantedW_ok hw, by rw [hpr (pend_load ho hl him)]; exact hsub⟩) hwr hk'
              | false => exact takeC_any ho (Region.noSelect_spec hs) (fun c a w => hQ c _ _ a w) n listed (act fr) w hfr him (.inl ⟨wantedW_ok hw, hany hl⟩) hwr hk'
          · rename_i hw
            have hk' := ih _ _ _ _ hwr (fun hp => hpr (pend_set hp)) h
            rw [act_put] at hk'
            exact takeC_any ho (Region.noSelect_spec hs) (fun c a w => hQ c _ _ a w) n listed (act fr) w hfr him (.inr ⟨wantedW_ok hw, rfl⟩) hwr hk'
          · exact h.elim
        · exact h.elim
      · refine ⟨fun h0 => (by rw [h0] at hr; cases hr), fun i hi => ?_⟩
        rw [hr] at hi
        have h' := allD_all h i hi
        unfold wpOp
        split at h'
        · rename_i o ho
          split at h'
          · rename_i hw
            simp only [ho]
            rw [if_pos (wantedW_ok hw)]
            refine .inl (opL_ok (fun fr' w' hk => splitFr_ok (G := fun a => (lastB ty ops i = true → wpAny P .any ops Q n (listed.setIfInBounds i true) a w') ∧
              (lastB ty ops i = false → sOf wr w' ∧ wpAnyC P ops Q (sOf wr) (lastB ty ops) n (listed.setIfInBounds i true) a w')) (fun fr'' hk2 => ?_) hk) h')
            clear h'
            cases hb : lastB ty ops i with
            | true =>
              rw [hb] at hk2
              refine ⟨fun _ => wpAny_of_C _ _ _ _ (ih _ _ _ _ ?_ (fun hp => by rw [hp]; rfl) hk2), fun h => (by cases h)⟩
              cases pend ops (listed.setIfInBounds i true) with
              | true => exact Below.refl _ _
              | false => exact True.intro
            | false =>
              rw [hb] at hk2
              cases hp : pend ops listed with
              | true =>
                rw [hp] at hk2
                obtain ⟨hbel, hk2⟩ := hk2
                have hw := hpr hp
                subst hw
                exact ⟨fun h => (by cases h), fun _ => ⟨hbel, wpAnyC_mono (fun w'' hb'' => hbel.trans (hb''.mono hbel.size)) _ _ _ _ (ih _ _ _ (some _) (Below.refl _ _) (fun _ => rfl) hk2)⟩⟩
              | false =>
                rw [hp] at hk2
                have hk3 : sOf wr w' ∧ WD P ty ops K n (listed.setIfInBounds i true) fr'' w' wr := by
                  cases wr with
                  | none => exact ⟨True.intro, hk2⟩
                  | some w0 => exact ⟨hk2.below, hk2.k⟩
                obtain ⟨hbel, hk2⟩ := hk3
                exact ⟨fun h => (by cases h), fun _ => ⟨hbel, ih _ _ _ _ hbel (fun h => by have := pend_set h; rw [hp] at this; cases this) hk2⟩⟩
          · exact h'.elim
        · exact h'.elim

/-! ### Code -/
abbrev Post := Exit → List SV → World → Prop
def thenW (next : List SV → World → Prop) (Φ : Post) : Post
  | .normal, fr, w => next fr w
  | e, fr, w => Φ e fr w
def blockW (id : Nat) (Φ : Post) : Post
  | .exit id', fr, w => bif id' == id then Φ .normal fr w else Φ (.exit id') fr w
  | e, fr, w => Φ e fr w
def condW (x y : Prop) : SV → Prop
  | .lit true => x
  | .lit false => y
  | .val (.bool b) => splitB b fun b => bif b then x else y
  | _ => False
/-- A world that has drawn once more. -/
def Drew (w w' : World) : Prop := w' = w.drewN 1
theorem Drew.heap {w w' : World} (h : Drew w w') : w'.heap = w.heap := by unfold Drew at h; subst h; rfl
theorem Drew.below {w w' : World} (h : Drew w w') (B : Nat) : Below B w w' := by unfold Drew at h; subst h; exact ⟨rfl, rfl, rfl, Nat.le_refl _, fun _ _ => rfl⟩
def W (P : Program) (ty : List RT) (LW : Code → Post → List SV → World → Prop) : Code → Post → List SV → World → Prop
  | .skip, Φ, fr, w => Φ .normal fr w
  | .label _, Φ, fr, w => Φ .normal fr w
  | .seq x y, Φ, fr, w => W P ty LW x (thenW (W P ty LW y Φ) Φ) fr w
  | .cond c x y, Φ, fr, w => condW (W P ty LW x Φ fr w) (W P ty LW y Φ fr w) (evS fr c)
  | .block id c, Φ, fr, w => W P ty LW c (blockW id Φ) fr w
  | .exit id, Φ, fr, w => Φ (.exit id) fr w
  | .ret, Φ, fr, w => Φ .ret fr w
  | .region _ ops d, Φ, fr, w =>
    bif d then ∀ w', Drew w w' → (bif Region.noSelect ops then WD P ty ops (Φ .normal) ops.size (Array.replicate ops.size false) fr w' (some w') else False)
    else WL P ty ops (Φ .normal) 0 ops.toList fr w
  | .loop c, Φ, fr, w => LW c Φ fr w
  | _, _, _, _ => False
/-- The same, said of the machine's frames. -/
def up (Φ : Post) : Exit → Act → World → Prop := fun e a w => ∃ fr, act fr = a ∧ Φ e fr w
def Sound (P : Program) (LW : Code → Post → List SV → World → Prop) : Prop := ∀ c Φ fr w, LW c Φ fr w → (Code.loop c).wp P (up Φ) (act fr) w
theorem W_ok {P : Program} {ty : List RT} {LW : Code → Post → List SV → World → Prop} (hm : P.follows .mixedOrders = true) (hL : Sound P LW) :
    ∀ (c : Code) (Φ : Post) (fr : List SV) (w : World), W P ty LW c Φ fr w → c.wp P (up Φ) (act fr) w
  | .skip, Φ, fr, w, h => wp_skip ⟨fr, rfl, h⟩
  | .label _, Φ, fr, w, h => wp_label ⟨fr, rfl, h⟩
  | .exit _, Φ, fr, w, h => wp_exit ⟨fr, rfl, h⟩
  | .ret, Φ, fr, w, h => wp_ret ⟨fr, rfl, h⟩
  | .seq x y, Φ, fr, w, h => by
    refine wp_seq (wp_mono (W_ok hm hL x _ fr w h) ?_)
    rintro e a w' ⟨fr', rfl, h'⟩
    cases e <;> first | exact W_ok hm hL y Φ fr' w' h' | exact ⟨fr', rfl, h'⟩
  | .cond c x y, Φ, fr, w, h => by
    have hc : (act fr).eval c = (evS fr c).den := act_eval fr c
    simp only [W] at h
    generalize evS fr c = sc at *
    unfold condW at h
    split at h
    · exact wp_cond_true hc (W_ok hm hL x Φ fr w h)
    · exact wp_cond_false hc (W_ok hm hL y Φ fr w h)
    · rename_i b
      cases b with
      | true => exact wp_cond_true hc (W_ok hm hL x Φ fr w (h.1 rfl))
      | false => exact wp_cond_false hc (W_ok hm hL y Φ fr w (h.2 rfl))
    · exact h.elim
  | .block id c, Φ, fr, w, h => by
    refine wp_block (wp_mono (W_ok hm hL c _ fr w h) ?_)
    rintro e a w' ⟨fr', rfl, h'⟩
    cases e <;> first
      | (rename_i id'
         simp only [blockW] at h'
         simp only [Exit.inBlock]
         cases hb : (id' == id) with
         | true => rw [hb] at h'; rw [if_pos (by simpa using hb)]; exact ⟨fr', rfl, h'⟩
         | false => rw [hb] at h'; rw [if_neg (by simpa using hb)]; exact ⟨fr', rfl, h'⟩)
      | exact ⟨fr', rfl, h'⟩
  | .region id ops d, Φ, fr, w, h => by
    cases d with
    | false =>
      refine wp_region_list (WL_ok (K := Φ .normal) (fun fr' w' hk => ⟨fr', rfl, hk⟩) ops.toList 0 fr w h)
    | true =>
      have h' := h (w.drewN 1) rfl
      cases hs : Region.noSelect ops with
      | false => rw [hs] at h'; exact h'.elim
      | true =>
        rw [hs] at h'
        refine wp_region_noPanic (wp_region_any hm (wpAny_of_C _ _ _ _ (WD_ok (K := Φ .normal) hs (fun fr' w' hk => ?_) ?_ _ _ _ _ (some _) (Below.refl _ _) (fun _ => rfl) h')))
        · exact ⟨fr', rfl, hk⟩
        · intro c d v a w hq; exact hq
  | .loop c, Φ, fr, w, h => hL c Φ fr w h
  | .rangeFunc .., _, _, _, h => h.elim
  | .goto _, _, _, _, h => h.elim
  | .scope _, _, _, _, h => h.elim
  | .refuse _, _, _, _, h => h.elim

/-! ### Frames with open places -/
inductive Slot where
  | junk | k (t : TK)
def Vals : List Slot → Type
  | [] => Unit
  | .junk :: r => Vals r
  | .k t :: r => t.T × Vals r
def shape1 : TK → Value → Bool
  | .int k, .int k' _ => sameK k k'
  | .bool, .bool _ => true
  | .str, .string _ => true
  | .any, _ => true
  | _, _ => false
def ext1 : (t : TK) → Value → t.T
  | .int _, .int _ n => n
  | .int _, _ => (0 : Int)
  | .bool, .bool b => b
  | .bool, _ => false
  | .str, .string s => s
  | .str, _ => ByteArray.empty
  | .any, v => v
def shapeT : List Slot → List SV → Bool
  | [], [] => true
  | .junk :: r, _ :: fr => shapeT r fr
  | .k t :: r, x :: fr => shape1 t x.den && shapeT r fr
  | _, _ => false
def extT : (sp : List Slot) → List SV → Vals sp
  | [], _ => ()
  | .junk :: r, fr => extT r fr.tail
  | .k t :: r, fr => (ext1 t (getS fr 0).den, extT r fr.tail)
def mkT (j : Nat → Value) : Nat → (sp : List Slot) → Vals sp → List SV
  | _, [], _ => []
  | i, .junk :: r, v => .val (j i) :: mkT j (i + 1) r v
  | i, .k t :: r, v => .val (t.val v.1) :: mkT j (i + 1) r v.2
theorem shape1_ok {t : TK} {v : Value} (h : shape1 t v = true) : v = t.val (ext1 t v) := by
  unfold shape1 at h
  split at h <;> first | rfl | (rw [sameK_eq h]; rfl) | cases h
theorem shapeT_ok : ∀ (sp : List Slot) (fr : List SV), shapeT sp fr = true → ∀ (j : Nat → Value) (i : Nat), (∀ n, j (i + n) = (getS fr n).den) → fr.map SV.den = (mkT j i sp (extT sp fr)).map SV.den
  | [], [], _, _, _, _ => rfl
  | .junk :: r, x :: fr, h, j, i, hj => by
    have h0 : j i = x.den := hj 0
    have := shapeT_ok r fr h j (i + 1) (fun n => by have := hj (n + 1); rwa [show i + (n + 1) = i + 1 + n from by omega] at this)
    simp only [List.map_cons, mkT, extT, List.tail_cons]
    rw [h0, this]
    rfl
  | .k t :: r, x :: fr, h, j, i, hj => by
    simp only [shapeT, Bool.and_eq_true] at h
    have := shapeT_ok r fr h.2 j (i + 1) (fun n => by have := hj (n + 1); rwa [show i + (n + 1) = i + 1 + n from by omega] at this)
    simp only [List.map_cons, mkT, extT, List.tail_cons, getS]
    rw [this]
    congr 1
    exact shape1_ok h.1
  | [], _ :: _, h, _, _, _ => by cases h
  | .junk :: _, [], h, _, _, _ => by cases h
  | .k _ :: _, [], h, _, _, _ => by cases h
theorem shape_mk {sp : List Slot} {fr : List SV} (h : shapeT sp fr = true) : ∃ j, act fr = act (mkT j 0 sp (extT sp fr)) :=
  ⟨fun n => (getS fr n).den, by unfold act; rw [shapeT_ok sp fr h (fun n => (getS fr n).den) 0 (fun n => by simp)]⟩
structure Door where
  sp : List Slot
  D : Vals sp → World → Prop
def doorW (d : Door) (fr : List SV) (w : World) : Prop := bif shapeT d.sp fr then d.D (extT d.sp fr) w else False
def doorOf (Φ : Post) (e : Exit) (sp : List Slot) : Door := ⟨sp, fun v w => ∀ j, Φ e (mkT j 0 sp v) w⟩
def doorsW : List (Nat × Door) → Nat → List SV → World → Prop
  | [], _, _, _ => False
  | (k, d) :: r, n, fr, w => bif n == k then doorW d fr w else doorsW r n fr w
def loopPost (sp : List Slot) (exits : List (Nat × Door)) (ret : Door) (N : Vals sp → World → Prop) : Post
  | .normal, fr, w => doorW ⟨sp, N⟩ fr w
  | .exit k, fr, w => doorsW exits k fr w
  | .ret, fr, w => doorW ret fr w
  | _, _, _ => False
theorem doorOf_ok {Φ : Post} {e : Exit} {sp : List Slot} {fr : List SV} {w : World} (h : doorW (doorOf Φ e sp) fr w) : up Φ e (act fr) w := by
  unfold doorW at h
  cases hs : shapeT (doorOf Φ e sp).sp fr with
  | false => rw [hs] at h; exact h.elim
  | true =>
    rw [hs] at h
    obtain ⟨j, hj⟩ := shape_mk hs
    exact ⟨_, hj.symm, h j⟩
theorem doorsOf_ok {Φ : Post} {fr : List SV} {w : World} {n : Nat} : ∀ {l : List (Nat × List Slot)}, doorsW (l.map fun x => (x.1, doorOf Φ (.exit x.1) x.2)) n fr w → up Φ (.exit n) (act fr) w
  | [], h => h.elim
  | (k, sp) :: r, h => by
    simp only [List.map_cons, doorsW] at h
    cases hb : (n == k) with
    | true =>
      rw [hb] at h
      have : n = k := by simpa using hb
      subst this
      exact doorOf_ok h
    | false => rw [hb] at h; exact doorsOf_ok h
/-- A loop: what holds at each round's head, and a measure that each round lowers. -/
structure LOOP {U S : Type} (u : U) (body : (U → S → World → Prop) → S → World → Prop) (s : S) (w : World) : Prop where
  ex : ∃ (I : S → World → Prop) (μ : S → World → Nat), I s w ∧ ∀ s w, I s w → body (fun u' s' w' => u' = u ∧ I s' w' ∧ μ s' w' < μ s w) s w
/-- The loop's own code, held against the one that was read. -/
structure At (c c' : Code) (X : Prop) : Prop where
  eq : c = c'
  x : X
theorem loop_ok {P : Program} {ty : List RT} {LW : Code → Post → List SV → World → Prop} (hm : P.follows .mixedOrders = true) (hL : Sound P LW) {c : Code} (sp : List Slot) {U S : Type}
    (pu : Vals sp → U) (ps : Vals sp → S) (pk : U → S → Vals sp) (hpk : ∀ v, pk (pu v) (ps v) = v) (exits : List (Nat × List Slot)) (ret : List Slot) {Φ : Post}
    {body : U → (U → S → World → Prop) → S → World → Prop}
    (hround : ∀ j u s w (N : U → S → World → Prop), body u N s w → W P ty LW c (loopPost sp (exits.map fun x => (x.1, doorOf Φ (.exit x.1) x.2)) (doorOf Φ .ret ret) (fun v w => N (pu v) (ps v) w)) (mkT j 0 sp (pk u s)) w)
    {fr : List SV} {w : World} (hs : shapeT sp fr = true) (h : LOOP (pu (extT sp fr)) (body (pu (extT sp fr))) (ps (extT sp fr)) w) : (Code.loop c).wp P (up Φ) (act fr) w := by
  obtain ⟨I, μ, h0, hI⟩ := h
  generalize hu : pu (extT sp fr) = u at *
  generalize hss : ps (extT sp fr) = s at *
  let get : Act → S := fun a => ps (extT sp (a.tmps.toList.map SV.val))
  have getmk : ∀ fr, get (act fr) = ps (extT sp fr) := by
    have : ∀ (sp : List Slot) (fr : List SV), extT sp ((fr.map SV.den).map SV.val) = extT sp fr := by
      intro sp
      induction sp with
      | nil => intro fr; rfl
      | cons x r ih =>
        intro fr
        cases x with
        | junk =>
          cases fr with
          | nil => rfl
          | cons y fr => exact ih fr
        | k t =>
          cases fr with
          | nil => rfl
          | cons y fr => simp only [extT, List.map_cons, List.tail_cons, getS, SV.den]; rw [ih]
    intro fr
    show ps (extT sp ((act fr).tmps.toList.map SV.val)) = _
    rw [show (act fr).tmps.toList = fr.map SV.den from by simp [act], this]
  refine wp_loop (fun a w => ∃ fr, act fr = a ∧ shapeT sp fr = true ∧ pu (extT sp fr) = u ∧ I (ps (extT sp fr)) w) (fun a w => μ (get a) w) ⟨fr, rfl, hs, hu, by rw [hss]; exact h0⟩ ?_
  rintro a w ⟨fr, rfl, hs, hu, hi⟩
  obtain ⟨j, hj⟩ := shape_mk hs
  have hb := hround j u (ps (extT sp fr)) w _ (hI _ _ hi)
  rw [← hu, hpk] at hb
  have := W_ok hm hL c _ _ _ hb
  rw [hj]
  refine wp_mono this ?_
  rintro e a' w' ⟨fr', rfl, h'⟩
  cases e with
  | normal =>
    simp only [loopPost, doorW] at h'
    cases hs' : shapeT sp fr' with
    | false => rw [hs'] at h'; exact h'.elim
    | true =>
      rw [hs'] at h'
      obtain ⟨e1, e2, e3⟩ := h'
      refine ⟨⟨fr', rfl, hs', e1.trans hu, e2⟩, ?_⟩
      show μ (get (act fr')) w' < μ (get (act _)) w
      rw [← hj, getmk, getmk]
      exact e3
  | exit k => exact doorsOf_ok h'
  | ret => exact doorOf_ok h'
  | goto l => exact h'.elim
  | panic ch => exact h'.elim
  | outgrown => exact h'.elim

/-! ### Functions -/
def typed1 : (t : TK) → (t.T → Prop) → Value → Prop
  | .int k, K, .int k' n => bif sameK k k' then K n else False
  | .bool, K, .bool b => K b
  | .str, K, .string s => K s
  | .any, K, v => K v
  | _, _, _ => False
theorem typed1_ok {t : TK} {K : t.T → Prop} {v : Value} (h : typed1 t K v) : ∃ x, v = t.val x ∧ K x := by
  cases t with
  | int k =>
    cases v <;> first
      | exact h.elim
      | (rename_i k' n
         simp only [typed1] at h
         cases hb : sameK k k' with
         | true => rw [hb] at h; exact ⟨n, by rw [sameK_eq hb], h⟩
         | false => rw [hb] at h; exact h.elim)
  | bool => cases v <;> first | exact h.elim | exact ⟨_, rfl, h⟩
  | str => cases v <;> first | exact h.elim | exact ⟨_, rfl, h⟩
  | any => exact ⟨v, rfl, by cases v <;> exact h⟩
def typedR : (t : RT) → (t.T → World → Prop) → World → List Value → Prop
  | .one t, K, w, [v] => typed1 t (fun x => K x w) v
  | .two a b, K, w, [x, y] => typed1 a (fun x => typed1 b (fun y => K (x, y) w) y) x
  | .three a b c, K, w, [x, y, z] => typed1 a (fun x => typed1 b (fun y => typed1 c (fun z => K (x, y, z) w) z) y) x
  | .unit, K, w, [] => K () w
  | _, _, _, _ => False
def oneOr (vs : List Value) : Value := match vs with | [v] => v | vs => .tuple vs.toArray
theorem typedR_ok {t : RT} {K : t.T → World → Prop} {w : World} {vs : List Value} (h : typedR t K w vs) : ∃ x, oneOr vs = t.val x ∧ K x w := by
  unfold typedR at h
  split at h
  · obtain ⟨x, rfl, h1⟩ := typed1_ok h
    exact ⟨x, rfl, h1⟩
  · obtain ⟨x, rfl, h1⟩ := typed1_ok h
    obtain ⟨y, rfl, h2⟩ := typed1_ok h1
    exact ⟨(x, y), rfl, h2⟩
  · obtain ⟨x, rfl, h1⟩ := typed1_ok h
    obtain ⟨y, rfl, h2⟩ := typed1_ok h1
    obtain ⟨z, rfl, h3⟩ := typed1_ok h2
    exact ⟨(x, y, z), rfl, h3⟩
  · exact ⟨(), rfl, h⟩
  · exact h.elim
def resW (P : Program) (fr : List SV) (w : World) (t : RT) (K : t.T → World → Prop) : List ResultVar → List Value → Prop
  | [], acc => typedR t K w acc
  | .tmp s :: r, acc => resW P fr w t K r (acc ++ [(getS fr s).den])
  | .cell a e :: r, acc => QSub P (Instr.loadAt e (getS fr a).den) w .any fun v => resW P fr w t K r (acc ++ [v])
theorem resW_ok {P : Program} {fr : List SV} {w : World} {t : RT} {K : t.T → World → Prop} {f : ResultVar → Sem Value}
    (hf1 : ∀ s, f (.tmp s) = pure (getS fr s).den) (hf2 : ∀ a e v, (Instr.loadAt e (getS fr a).den).run P w = .ok v w → (f (.cell a e)).run P w = .ok v w) :
    ∀ (rs : List ResultVar) (acc : List Value), resW P fr w t K rs acc → ∃ vs, (rs.mapM f).run P w = .ok vs w ∧ typedR t K w (acc ++ vs)
  | [], acc, h => ⟨[], by simp, by rw [List.append_nil]; exact h⟩
  | .tmp s :: r, acc, h => by
    obtain ⟨vs, h1, h2⟩ := resW_ok hf1 hf2 r _ h
    refine ⟨(getS fr s).den :: vs, ?_, by simpa using h2⟩
    simp [List.mapM_cons, hf1, h1]
  | .cell a e :: r, acc, h => by
    obtain ⟨v, hv, h⟩ := h
    obtain ⟨vs, h1, h2⟩ := resW_ok hf1 hf2 r _ h
    refine ⟨v :: vs, ?_, by simpa using h2⟩
    simp [List.mapM_cons, hf2 a e v (hv w (Below.refl _ _)), h1]
def fnPost (P : Program) (rs : List ResultVar) (t : RT) (K : t.T → World → Prop) : Post
  | .normal, fr, w => resW P fr w t K rs []
  | .ret, fr, w => resW P fr w t K rs []
  | _, _, _ => False
def frame0 (args : List Value) (n : Nat) : List SV := args.map SV.val ++ List.replicate (n - args.length) (.val undef)
theorem results_ok {P : Program} {fn : Func} {fr : List SV} {w : World} {t : RT} {K : t.T → World → Prop} (h : resW P fr w t K fn.results.toList []) :
    ∃ x, (results fn (act fr).tmps).run P w = .ok (t.val x) w ∧ K x w := by
  have hg : ∀ s, (act fr).tmps.getD s undef = (getS fr s).den := fun s => (getS_den fr s).symm
  unfold results
  generalize hF : (fun | .tmp t => pure ((act fr).tmps.getD t undef) | .cell a t => do loadVar t (← asAddr ((act fr).tmps.getD a undef)) : ResultVar → Sem Value) = F
  obtain ⟨vs, h1, h2⟩ := resW_ok (f := F) (fun s => by rw [← hF]; simp only [hg]) (fun a e v hv => by
      rw [← hF]
      simp only [hg]
      generalize (getS fr a).den = p at *
      unfold Instr.loadAt at hv
      cases p <;> first
        | (simp [Instr.sureAddr, stuck] at hv; done)
        | (rename_i o
           cases o with
           | none => simp [Instr.sureAddr, stuck] at hv
           | some o => exact hv)) fn.results.toList [] h
  obtain ⟨x, hx, hk⟩ := typedR_ok h2
  refine ⟨x, ?_, hk⟩
  rw [Array.mapM_eq_mapM_toList]
  simp only [Sem.run_bind, Sem.run_map]
  rw [h1]
  simp only [List.nil_append] at hx
  rw [← hx]
  simp only [Result.andThen_ok, Sem.run_pure]
  unfold oneOr
  match vs with
  | [] => rfl
  | [v] => rfl
  | _ :: _ :: _ => simp
theorem fn_ok {P : Program} {ty : List RT} {LW : Code → Post → List SV → World → Prop} (hm : P.follows .mixedOrders = true) (hL : Sound P LW) {f : FuncId} {fn : Func} {c : Code}
    (hf : P.funcs[f]? = some fn) (hname : (fn.name == "runtime.NumGoroutine") = false) (hb : fn.body = some c) {n : Nat} (hn : fn.ntmps = n) (args : List Value) {t : RT} {K : t.T → World → Prop} {w : World}
    (h : W P ty LW c (fnPost P fn.results.toList t K) (frame0 args n) w) : Fc P f args.toArray w t K := by
  refine ⟨fun args w => ?_, ?_⟩
  · have h1 : fn.name ≠ "runtime.NumGoroutine" := by simpa using hname
    simp [callFunc, hf, h1, hb]
  · refine calls_of_wp hf hb ?_
    have := W_ok hm hL c _ _ _ h
    have he : act (frame0 args n) = { tmps := args.toArray ++ Array.replicate (fn.ntmps - args.toArray.size) undef, defers := [] } := by
      unfold act frame0
      simp only [List.map_append, List.map_map, List.map_replicate, List.size_toArray, hn]
      congr 1
      rw [show (SV.den ∘ SV.val) = (id : Value → Value) from rfl]
      apply Array.ext'
      simp [SV.den]
    rw [he] at this
    refine wp_mono this ?_
    rintro e a w' ⟨fr, rfl, h'⟩
    cases e with
    | normal => obtain ⟨x, hx, hk⟩ := results_ok h'; exact ⟨rfl, _, hx, x, rfl, hk⟩
    | ret => obtain ⟨x, hx, hk⟩ := results_ok h'; exact ⟨rfl, _, hx, x, rfl, hk⟩
    | exit k => exact h'.elim
    | goto l => exact h'.elim
    | panic ch => exact h'.elim
    | outgrown => exact h'.elim
theorem sound_none (P : Program) : Sound P (fun _ _ _ _ => False) := fun _ _ _ _ h => h.elim
theorem Fc.mono {P : Program} {f : FuncId} {args : Array Value} {w : World} {t : RT} {K K' : t.T → World → Prop} (h : Fc P f args w t K) (hk : ∀ x w', K x w' → K' x w') : Fc P f args w t K' :=
  ⟨h.ent, h.run.mono fun _ _ ⟨x, he, hx⟩ => ⟨x, he, hk _ _ hx⟩⟩

/-! ### What a function's printed reading is held against -/
def bodyOf (fn : Func) : Code := fn.body.getD .skip
def firstId : Code → Nat
  | .region id _ _ => id
  | .seq x _ => firstId x
  | .block _ c => firstId c
  | .loop c => 1000 + firstId c
  | _ => 0
def findLoop (id : Nat) : Code → Option Code
  | .loop c => bif firstId c == id then some c else findLoop id c
  | .seq x y => match findLoop id x with
    | some c => some c
    | none => findLoop id y
  | .cond _ x y => match findLoop id x with
    | some c => some c
    | none => findLoop id y
  | .block _ c => findLoop id c
  | _ => none
def loopAt (fn : Func) (id : Nat) : Code := (findLoop id (bodyOf fn)).getD .skip
def orc (id : Nat) (c0 : Code) (sp : List Slot) (X : Post → List SV → World → Prop) (O : Code → Post → List SV → World → Prop) : Code → Post → List SV → World → Prop :=
  fun c Φ fr w => bif firstId c == id then At c c0 (bif shapeT sp fr then X Φ fr w else False) else O c Φ fr w
theorem orc_ok {P : Program} {O : Code → Post → List SV → World → Prop} (hO : Sound P O) {id : Nat} {c0 : Code} {sp : List Slot} {X : Post → List SV → World → Prop}
    (hX : ∀ Φ fr w, shapeT sp fr = true → X Φ fr w → (Code.loop c0).wp P (up Φ) (act fr) w) : Sound P (orc id c0 sp X O) := by
  intro c Φ fr w h
  unfold orc at h
  cases hb : (firstId c == id) with
  | true =>
    rw [hb] at h
    obtain ⟨rfl, h⟩ := h
    cases hs : shapeT sp fr with
    | true => rw [hs] at h; exact hX Φ fr w hs h
    | false => rw [hs] at h; exact h.elim
  | false => rw [hb] at h; exact hO c Φ fr w h
end Go.Proofs.Ytkadckhealbdaaa.Eng
