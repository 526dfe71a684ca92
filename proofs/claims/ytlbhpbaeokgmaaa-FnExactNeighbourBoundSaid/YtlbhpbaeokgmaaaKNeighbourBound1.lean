/- Texts that the law FnExactNeighbourBound needs, joined. No condition. -/
import Derived.OrdersHeld
import Derived.Deep.RegionHeld3
import Derived.Deep.LoopGhost
import Derived.Below
import Derived.Deep.Draws
import Derived.Tactics
import Derived.KernelRfl
import Derived.Laws.OwnMore
import Derived.Laws.MakeOwn
import Derived.Laws.CopyRow
import Derived.Laws.Rows
import Derived.Laws.Entries
import Derived.OwnWalk
import Derived.IntWalk
import Derived.Laws.Small
import Derived.Test.YtlbhpbaeokgmaaaProg
import Derived.Lib.SliceRun
import Derived.Laws.Strings
import Derived.DeepKeys4
import Derived.WideKeyMaps2
import Derived.WideMake
set_option linter.all false
/- The engine: a functional reading W of a function's code as a statement over memory, and the proof that what W says, the machine does. No condition. -/
namespace Go.Proofs.Ytlbhpbaeokgmaaa.Eng
open Go Go.RowKit

/-! ### Kinds of values and of results -/
inductive TK where
  | int (k : IntKind) | bool | str | any
abbrev TK.T : TK → Type
  | .int _ => Int | .bool => Bool | .str => ByteArray | .any => Value
abbrev TK.val : (t : TK) → t.T → Value
  | .int k, n => .int k n | .bool, x => .bool x | .str, x => .string x | .any, x => x
inductive RT where
  | one (t : TK) | two (a b : TK) | three (a b c : TK) | unit
abbrev RT.T : RT → Type
  | .one t => t.T | .two a b => a.T × b.T | .three a b c => a.T × b.T × c.T | .unit => Unit
abbrev RT.val : (t : RT) → t.T → Value
  | .one t, x => t.val x
  | .two a b, x => .tuple #[a.val x.1, b.val x.2]
  | .three a b c, x => .tuple #[a.val x.1, b.val x.2.1, c.val x.2.2]
  | .unit, _ => .tuple #[]
/-- A row of kinds, by type numbers. -/
def RT.at (l : List RT) (t : Nat) : RT := l.getD t (.one .any)
def RT.tk : RT → TK
  | .one t => t | _ => .any

/-! ### What is asked of memory -/
structure Fc (P : Program) (f : FuncId) (args : Array Value) (w : World) (t : RT) (K : t.T → World → Prop) : Prop where
  ent : ∀ args w, (callFunc f args).run P w = .ok (.enter f args) w
  run : Calls P f args w (fun e w' => ∃ x, e = .returned (t.val x) ∧ K x w')
def callV (P : Program) (fv : Value) (args : Array Value) (w : World) (t : RT) (K : t.T → World → Prop) : Prop :=
  match fv with
  | .func (.func f) first cap => Fc P f (first ++ args ++ cap) w t K
  | _ => False
structure Pr (P : Program) (s : Sem Value) (w : World) (t : RT) (K : t.T → World → Prop) : Prop where
  ex : ∃ x w', s.run P w = .ok (t.val x) w' ∧ K x w'
structure PrU (P : Program) (s : Sem Unit) (w : World) (K : World → Prop) : Prop where
  ex : ∃ w', s.run P w = .ok () w' ∧ K w'
/-- In whatever world it yields this, and nothing turns. -/
structure QAll (P : Program) (s : Sem Value) (t : TK) (K : t.T → Prop) : Prop where
  ex : ∃ x, (∀ w, s.run P w = .ok (t.val x) w) ∧ K x
/-- In every world that keeps what this one has, it yields this, and nothing turns. -/
structure QSub (P : Program) (s : Sem Value) (w : World) (t : TK) (K : t.T → Prop) : Prop where
  ex : ∃ x, (∀ w', Below w.heap.size w w' → s.run P w' = .ok (t.val x) w') ∧ K x
structure Keeps (w w' : World) (K : Prop) : Prop where
  below : Below w.heap.size w w'
  k : K
def splitB (b : Bool) (K : Bool → Prop) : Prop := (b = true → K true) ∧ (b = false → K false)

/-! ### Frames -/
inductive SV where
  | lit (b : Bool) | val (v : Value)
def SV.den : SV → Value
  | .lit b => .bool b | .val v => v
def getS : List SV → Nat → SV
  | [], _ => .val undef
  | x :: _, 0 => x
  | _ :: l, n + 1 => getS l n
def setS : List SV → Nat → SV → List SV
  | [], _, _ => []
  | _ :: l, 0, v => v :: l
  | x :: l, n + 1, v => x :: setS l n v
def putS (fr : List SV) (d : Option Tmp) (v : SV) : List SV :=
  match d with | some d => setS fr d v | none => fr
def act (fr : List SV) : Act := { tmps := (fr.map SV.den).toArray, defers := [] }
def evS (fr : List SV) : Operand → SV
  | .tmp t => getS fr t
  | .const (.bool b) => .lit b
  | .const v => .val v
  | .global g => .val (.pointer (some ⟨g, 0, none⟩))
  | .func f => .val (.func (.func f) #[] #[])
def evV (fr : List SV) (x : Operand) : Value := (evS fr x).den
def evs (fr : List SV) : List Operand → List Value
  | [] => []
  | x :: l => evV fr x :: evs fr l

theorem getS_den : ∀ (fr : List SV) (t : Nat), (getS fr t).den = (fr.map SV.den).toArray.getD t undef
  | [], t => by simp [getS, SV.den]
  | x :: l, 0 => by simp [getS]
  | x :: l, n + 1 => by
    have := getS_den l n
    simp only [getS, this]
    simp
theorem act_eval (fr : List SV) (x : Operand) : (act fr).eval x = evV fr x := by
  cases x with
  | tmp t => simp only [Act.eval, act, evV, evS]; exact (getS_den fr t).symm
  | const v => cases v <;> rfl
  | global g => rfl
  | func f => rfl
theorem setS_den : ∀ (fr : List SV) (d : Nat) (v : SV), (setS fr d v).map SV.den = (fr.map SV.den).set d v.den
  | [], _, _ => rfl
  | _ :: _, 0, _ => rfl
  | x :: l, n + 1, v => by simp [setS, setS_den l n v]
theorem act_put (fr : List SV) (d : Option Tmp) (v : SV) : act (putS fr d v) = (act fr).put d v.den := by
  cases d with
  | none => rfl
  | some d => simp [putS, act, Act.put, setS_den, List.setIfInBounds_toArray]
theorem evs_map (fr : List SV) : ∀ l : List Operand, evs fr l = l.map (act fr).eval
  | [] => rfl
  | x :: l => by simp [evs, evs_map fr l, act_eval]
theorem evs_arr (fr : List SV) (a : Array Operand) : a.map (act fr).eval = (evs fr a.toList).toArray := by
  rw [evs_map, ← Array.toList_map, Array.toArray_toList]

/-! ### Operations -/
def sameK : IntKind → IntKind → Bool
  | .i8, .i8 | .i16, .i16 | .i32, .i32 | .i64, .i64 | .u8, .u8 | .u16, .u16 | .u32, .u32 | .u64, .u64 => true
  | _, _ => false
theorem sameK_eq {k k' : IntKind} (h : sameK k k' = true) : k = k' := by cases k <;> cases k' <;> first | rfl | cases h
def isInt : RT → Bool
  | .one (.int _) => true
  | _ => false
/-- Those that only look: they need no order among themselves. -/
def quietOp (ty : List RT) (o : Oper) : Bool :=
  match o.op with
  | .move _ | .assign _ | .pick .. | .makeFunc .. | .extract .. | .unOp .. | .binOp .. | .load .. | .indexAddr .. | .fieldAddr .. | .field .. | .index .. | .slice .. | .nilCheck _ => true
  | .convert _ d _ => isInt (RT.at ty d)
  | .call { callee := .builtin b, .. } => match b with | .len | .cap | .min | .max => true | _ => false
  | _ => false
/-- Of these, those that look into memory. -/
def loadOp (o : Oper) : Bool :=
  match o.op with
  | .load .. => true
  | _ => false
def binQ (op : BinOp) (K : SV → Prop) : Value → Value → Prop
  | .int k a, .int k' b =>
    match op with
    | .add => bif sameK k k' then K (.val (.int k (k.wrap (a + b)))) else False
    | .sub => bif sameK k k' then K (.val (.int k (k.wrap (a - b)))) else False
    | .mul => bif sameK k k' then K (.val (.int k (k.wrap (a * b)))) else False
    | .quo => bif sameK k k' then b ≠ 0 ∧ K (.val (.int k (k.wrap (a.tdiv b)))) else False
    | .rem => bif sameK k k' then b ≠ 0 ∧ K (.val (.int k (a.tmod b))) else False
    | .eql => bif sameK k k' then K (.val (.bool (a == b))) else False
    | .neq => bif sameK k k' then K (.val (.bool (a != b))) else False
    | .lss => bif sameK k k' then K (.val (.bool (decide (a < b)))) else False
    | .leq => bif sameK k k' then K (.val (.bool (decide (a ≤ b)))) else False
    | .gtr => bif sameK k k' then K (.val (.bool (decide (a > b)))) else False
    | .geq => bif sameK k k' then K (.val (.bool (decide (a ≥ b)))) else False
    | .shl => 0 ≤ b ∧ K (.val (.int k (k.wrap (a * 2 ^ min b.toNat k.bits))))
    | .shr => 0 ≤ b ∧ K (.val (.int k (a.fdiv (2 ^ min b.toNat k.bits))))
    | .and => bif sameK k k' then K (.val (.int k (k.wrap (BitVec.ofInt k.bits a &&& BitVec.ofInt k.bits b).toNat))) else False
    | .or => bif sameK k k' then K (.val (.int k (k.wrap (BitVec.ofInt k.bits a ||| BitVec.ofInt k.bits b).toNat))) else False
    | .xor => bif sameK k k' then K (.val (.int k (k.wrap (BitVec.ofInt k.bits a ^^^ BitVec.ofInt k.bits b).toNat))) else False
    | .andNot => bif sameK k k' then K (.val (.int k (k.wrap (BitVec.ofInt k.bits a &&& ~~~(BitVec.ofInt k.bits b)).toNat))) else False
  | _, _ => False
def pickQ (K : SV → Prop) (x y : SV) : SV → Prop
  | .lit true => K x
  | .lit false => K y
  | .val (.bool b) => K (.val (bif b then x.den else y.den))
  | _ => False
def notQ (K : SV → Prop) : SV → Prop
  | .lit b => K (.lit (!b))
  | .val (.bool b) => K (.val (.bool (!b)))
  | _ => False
def unQ (P : Program) (op : UnOp) (t : TK) (K : SV → Prop) (x : SV) : Prop :=
  match op with
  | .not => notQ K x
  | op => QAll P (Op.unary op x.den) t fun r => K (.val (t.val r))
def extractQ (K : SV → Prop) (i : Nat) : Value → Prop
  | .tuple vs => match vs[i]? with | some v => K (.val v) | none => False
  | _ => False
def convQ (P : Program) (src dst : TypeId) (K : SV → Prop) : RT → Value → Prop
  | .one (.int k), .int k' n => QAll P (convert src dst (.int k' n)) (.int k) fun r => K (.val (.int k r))
  | _, _ => False
def optV (fr : List SV) : Option Operand → Option Value
  | none => none
  | some x => some (evV fr x)
/-- A pointer, or a function, that is not nil. -/
def NilOk (p : Value) : Prop := (∃ a, p = .pointer (some a)) ∨ (∃ f a b, p = .func (.func f) a b)
/-- A quiet operation: what it yields goes on. -/
def opQ (P : Program) (ty : List RT) (o : Oper) (fr : List SV) (w : World) (K : SV → Prop) : Prop :=
  match o.op with
  | .move x => K (evS fr x)
  | .assign x => K (evS fr x)
  | .pick c x y => pickQ K (evS fr x) (evS fr y) (evS fr c)
  | .makeFunc fn first cap => K (.val (.func fn (evs fr first.toList).toArray (evs fr cap.toList).toArray))
  | .extract x i => extractQ K i (evV fr x)
  | .unOp op _ x => unQ P op (RT.at ty o.type).tk K (evS fr x)
  | .binOp op xt x y _ => bif isInt (RT.at ty xt) then binQ op K (evV fr x) (evV fr y)
      else QAll P (do eqGuard op xt x y (evV fr x) (evV fr y); binOp op xt (evV fr x) (evV fr y)) (RT.at ty o.type).tk fun r => K (.val ((RT.at ty o.type).tk.val r))
  | .convert s d x => convQ P s d K (RT.at ty d) (evV fr x)
  | .load t p => QSub P (Instr.loadAt t (evV fr p)) w (RT.at ty o.type).tk fun r => K (.val ((RT.at ty o.type).tk.val r))
  | .indexAddr t x i => QAll P (Instr.indexAt t (evV fr x) (evV fr i)) .any fun r => K (.val r)
  | .fieldAddr s x f => QAll P (Instr.fieldAt s (evV fr x) f) .any fun r => K (.val r)
  | .field t x f => QAll P (Instr.field t (evV fr x) f) (RT.at ty o.type).tk fun r => K (.val ((RT.at ty o.type).tk.val r))
  | .index t x i => QAll P (Instr.index t (evV fr x) (evV fr i)) (RT.at ty o.type).tk fun r => K (.val ((RT.at ty o.type).tk.val r))
  | .slice t x lo hi mx => QAll P (Instr.sliceAt t (evV fr x) (optV fr lo) (optV fr hi) (optV fr mx)) (RT.at ty o.type).tk fun r => K (.val ((RT.at ty o.type).tk.val r))
  | .nilCheck x => NilOk (evV fr x) ∧ K (.val (evV fr x))
  | .call c => match c.callee with
    | .builtin .len => QAll P (Builtin.len_ c.argTypes o.type (evs fr c.args.toList).toArray) (.int .i64) fun r => K (.val (.int .i64 r))
    | .builtin .cap => QAll P (Builtin.cap_ c.argTypes o.type (evs fr c.args.toList).toArray) (.int .i64) fun r => K (.val (.int .i64 r))
    | .builtin .min => QAll P (Builtin.min_ c.argTypes o.type (evs fr c.args.toList).toArray) (RT.at ty o.type).tk fun r => K (.val ((RT.at ty o.type).tk.val r))
    | .builtin .max => QAll P (Builtin.max_ c.argTypes o.type (evs fr c.args.toList).toArray) (RT.at ty o.type).tk fun r => K (.val ((RT.at ty o.type).tk.val r))
    | _ => False
  | _ => False

theorem run_val (P : Program) (s : Sem Value) (w w' : World) (v : Value) (h : s.run P w = .ok v w') :
    (do let v ← s; pure (.value v) : Sem Next).run P w = .ok (.value v) w' := by
  rw [Sem.run_bind, h]; rfl
theorem quiet_ok {P : Program} {ty : List RT} {o : Oper} {fr : List SV} {w : World} {K : SV → Prop} (h : opQ P ty o fr w K) :
    ∃ v, K v ∧ (∀ w', Below w.heap.size w w' → (execOp (act fr).eval o).run P w' = .ok (.value v.den) w') ∧
      (loadOp o = false → ∀ w', (execOp (act fr).eval o).run P w' = .ok (.value v.den) w') := by
  have all : ∀ {s : Sem Value} {t : TK} {G : t.T → Prop}, QAll P s t G → (∀ r, G r → K (.val (t.val r))) → (execOp (act fr).eval o = (do let v ← s; pure (.value v))) →
      ∃ v, K v ∧ (∀ w', Below w.heap.size w w' → (execOp (act fr).eval o).run P w' = .ok (.value v.den) w') ∧
      (loadOp o = false → ∀ w', (execOp (act fr).eval o).run P w' = .ok (.value v.den) w') := by
    rintro s t G ⟨r, hr, hG⟩ hK he
    have run : ∀ w', (execOp (act fr).eval o).run P w' = .ok (.value (t.val r)) w' := fun w' => by
      rw [he]; exact run_val P s w' w' _ (hr w')
    exact ⟨_, hK r hG, fun w' _ => run w', fun _ w' => run w'⟩
  have now : ∀ {v : SV}, K v → (∀ w', (execOp (act fr).eval o).run P w' = .ok (.value v.den) w') →
      ∃ v, K v ∧ (∀ w', Below w.heap.size w w' → (execOp (act fr).eval o).run P w' = .ok (.value v.den) w') ∧
      (loadOp o = false → ∀ w', (execOp (act fr).eval o).run P w' = .ok (.value v.den) w') :=
    fun hK run => ⟨_, hK, fun w' _ => run w', fun _ w' => run w'⟩
  obtain ⟨dst, op, type, pos, after, guard⟩ := o
  cases op with
  | move x => exact now h fun w' => by simp only [execOp, act_eval]; rfl
  | assign x => exact now h fun w' => by simp only [execOp, act_eval]; rfl
  | pick c x y =>
    simp only [opQ] at h
    have hc : (act fr).eval c = (evS fr c).den := act_eval fr c
    have hx : (act fr).eval x = (evS fr x).den := act_eval fr x
    have hy : (act fr).eval y = (evS fr y).den := act_eval fr y
    generalize evS fr c = sc at *
    unfold pickQ at h
    split at h
    · exact now h fun w' => by simp only [execOp, hc, hx]; rfl
    · exact now h fun w' => by simp only [execOp, hc, hy]; rfl
    · rename_i b
      exact now h fun w' => by simp only [execOp, hc, hx, hy]; cases b <;> rfl
    · exact h.elim
  | makeFunc fn first cap => exact now h fun w' => by simp only [execOp, evs_arr]; rfl
  | extract x i =>
    simp only [opQ] at h
    have hx : (act fr).eval x = evV fr x := act_eval fr x
    generalize evV fr x = v at *
    unfold extractQ at h
    split at h
    · split at h
      · rename_i vs v hv
        exact now h fun w' => by simp only [execOp, hx]; exact run_val P _ _ _ _ (by simp only [Instr.extract, hv]; rfl)
      · exact h.elim
    · exact h.elim
  | unOp op t x =>
    simp only [opQ] at h
    have hx : (act fr).eval x = (evS fr x).den := act_eval fr x
    generalize evS fr x = sx at *
    unfold unQ at h
    split at h
    · unfold notQ at h
      split at h
      · exact now h fun w' => by simp only [execOp, hx]; exact run_val P _ _ _ _ rfl
      · exact now h fun w' => by simp only [execOp, hx]; exact run_val P _ _ _ _ rfl
      · exact h.elim
    · exact all h (fun r hr => hr) (by simp only [execOp, hx])
  | binOp op xt x y yt =>
    simp only [opQ] at h
    have hx : (act fr).eval x = evV fr x := act_eval fr x
    have hy : (act fr).eval y = evV fr y := act_eval fr y
    generalize evV fr x = vx at *
    generalize evV fr y = vy at *
    have guardOk : ∀ (op : BinOp) k a k' b (w' : World), (eqGuard op xt x y (.int k a) (.int k' b)).run P w' = .ok () w' := by
      intro op k a k' b w'
      cases op <;> rfl
    cases hi : isInt (RT.at ty xt) with
    | false => rw [hi] at h; exact all h (fun r hr => hr) (by simp only [execOp, hx, hy])
    | true =>
    rw [hi] at h
    simp only [cond_true] at h
    unfold binQ at h
    split at h
    · rename_i k a k' b
      have fin : ∀ {v : Value}, K (.val v) → (∀ w', (binOp op xt (.int k a) (.int k' b)).run P w' = .ok v w') → _ := fun {v} hK run => now (v := .val v) hK fun w' => by
        simp only [execOp, hx, hy]
        refine run_val P _ _ _ _ ?_
        rw [Sem.run_bind, guardOk]
        exact run w'
      split at h <;> first
        | (cases hk : sameK k k' with
            | true =>
              rw [hk] at h
              obtain rfl := sameK_eq hk
              first
                | exact fin h fun w' => by simp [binOp, Op.intArith, Op.intCmp, Op.intBits]
                | exact fin h.2 fun w' => by simp [binOp, Op.intDiv, h.1]
            | false => rw [hk] at h; exact h.elim)
        | exact fin h.2 fun w' => by simp [binOp, Op.shift, Int.not_lt.mpr h.1]
    · exact h.elim
  | convert s d x =>
    simp only [opQ] at h
    have hx : (act fr).eval x = evV fr x := act_eval fr x
    generalize evV fr x = vx at *
    unfold convQ at h
    split at h
    · exact all h (fun r hr => hr) (by simp only [execOp, hx])
    · exact h.elim
  | load t p =>
    obtain ⟨r, hr, hK⟩ := h
    refine ⟨_, hK, fun w' hw => ?_, fun hl => by cases hl⟩
    simp only [execOp, act_eval]
    exact run_val P _ _ _ _ (hr w' hw)
  | indexAddr t x i => exact all h (fun r hr => hr) (by simp only [execOp, act_eval])
  | fieldAddr s x f => exact all h (fun r hr => hr) (by simp only [execOp, act_eval])
  | field t x f => exact all h (fun r hr => hr) (by simp only [execOp, act_eval])
  | index t x i => exact all h (fun r hr => hr) (by simp only [execOp, act_eval])
  | slice t x lo hi mx =>
    have hm : ∀ q : Option Operand, q.map (act fr).eval = optV fr q := fun q => by cases q <;> simp [optV, act_eval]
    exact all h (fun r hr => hr) (by simp only [execOp, act_eval, hm])
  | nilCheck x =>
    have hx : (act fr).eval x = evV fr x := act_eval fr x
    obtain ⟨h, hK⟩ := h
    rcases h with ⟨a, ha⟩ | ⟨f, a, b, ha⟩
    · exact now hK fun w' => by simp only [execOp, hx, SV.den, ha]; rfl
    · exact now hK fun w' => by simp only [execOp, hx, SV.den, ha]; rfl
  | call c =>
    obtain ⟨callee, args, argTypes⟩ := c
    cases callee with
    | builtin b =>
      cases b <;> first | exact h.elim | exact all h (fun r hr => hr) (by simp only [execOp, resolve, evs_arr, pure_bind, invoke, builtin])
    | value f => exact h.elim
    | invoke r m => exact h.elim
  | _ => exact h.elim

/-! ### Operations that act -/
def evPairs (fr : List SV) : List (Nat × Operand) → List (Nat × Value)
  | [] => []
  | (i, x) :: l => (i, evV fr x) :: evPairs fr l
theorem evPairs_arr (fr : List SV) (a : Array (Nat × Operand)) : (a.map fun (i, x) => (i, (act fr).eval x)) = (evPairs fr a.toList).toArray := by
  have : ∀ l : List (Nat × Operand), evPairs fr l = l.map fun (i, x) => (i, (act fr).eval x) := fun l => by
    induction l with
    | nil => rfl
    | cons x l ih => obtain ⟨i, x⟩ := x; simp [evPairs, ih, act_eval]
  rw [this, ← Array.toList_map, Array.toArray_toList]
def builtinL (c : Go.Call) (type : TypeId) (args : Array Value) : Builtin → Sem Value
  | .append => Builtin.append_ c.argTypes type args
  | .copy => Builtin.copy_ c.argTypes type args
  | .delete => Builtin.delete_ c.argTypes type args
  | .clear => Builtin.clear_ c.argTypes type args
  | .len => Builtin.len_ c.argTypes type args
  | _ => stuck "builtinL"
def isL : Builtin → Bool
  | .append | .copy | .delete | .clear => true
  | _ => false
/-- An operation in its place: whatever it does, what follows goes on from there. -/
def opL (P : Program) (ty : List RT) (o : Oper) (fr : List SV) (w : World) (K : List SV → World → Prop) : Prop :=
  match o.op with
  | .call c => match c.callee with
    | .value f => callV P (evV fr f) (evs fr c.args.toList).toArray w (RT.at ty o.type) fun x w' => K (putS fr o.dst (.val ((RT.at ty o.type).val x))) w'
    | .builtin b => bif isL b then Pr P (builtinL c o.type (evs fr c.args.toList).toArray b) w (RT.at ty o.type) fun x w' => K (putS fr o.dst (.val ((RT.at ty o.type).val x))) w'
        else opQ P ty o fr w fun v => K (putS fr o.dst v) w
    | _ => False
  | .store t a x => PrU P (Instr.storeAt t (evV fr a) (evV fr x)) w fun w' => K (putS fr o.dst (.val undef)) w'
  | .mapUpdate t m k x => PrU P (Instr.mapUpdate t (evV fr m) (evV fr k) (evV fr x)) w fun w' => K (putS fr o.dst (.val undef)) w'
  | .insert t m k x => PrU P (Instr.mapUpdate t (evV fr m) (evV fr k) (evV fr x)) w fun w' => K (putS fr o.dst (.val undef)) w'
  | .alloc e => Pr P (Instr.alloc e true (.tuple #[])) w (.one .any) fun x w' => K (putS fr o.dst (.val x)) w'
  | .box e x => Pr P (Instr.box e (evV fr x)) w (.one .any) fun x w' => K (putS fr o.dst (.val x)) w'
  | .build t ps => Pr P (Instr.build t (evPairs fr ps.toList).toArray) w (.one .any) fun x w' => K (putS fr o.dst (.val x)) w'
  | .buildSlice t n ps => Pr P (Instr.buildSlice t n (evPairs fr ps.toList).toArray) w (.one .any) fun x w' => K (putS fr o.dst (.val x)) w'
  | .makeSlice t n c => Pr P (Instr.makeSlice t (evV fr n) (evV fr c)) w (.one .any) fun x w' => K (putS fr o.dst (.val x)) w'
  | .makeMap t r => Pr P (Instr.makeMap t (optV fr r)) w (.one .any) fun x w' => K (putS fr o.dst (.val x)) w'
  | .lookup t x k ok => Pr P (Instr.lookup t (evV fr x) (evV fr k) ok) w (RT.at ty o.type) fun x w' => K (putS fr o.dst (.val ((RT.at ty o.type).val x))) w'
  | .convert a b x => bif isInt (RT.at ty b) then opQ P ty o fr w fun v => K (putS fr o.dst v) w
      else Pr P (convert a b (evV fr x)) w (RT.at ty o.type) fun x w' => K (putS fr o.dst (.val ((RT.at ty o.type).val x))) w'
  | _ => opQ P ty o fr w fun v => K (putS fr o.dst v) w

theorem run_unit (P : Program) (s : Sem Unit) (w w' : World) (h : s.run P w = .ok () w') :
    (do s; pure .skip : Sem Next).run P w = .ok .skip w' := by
  rw [Sem.run_bind, h]; rfl
theorem opL_ok {P : Program} {ty : List RT} {o : Oper} {fr : List SV} {w : World} {K : List SV → World → Prop} {K' : Act → World → Prop} {Q : Exit → Act → World → Prop}
    (hK : ∀ fr w, K fr w → K' (act fr) w) (h : opL P ty o fr w K) : o.wp P (act fr) w K' Q := by
  have value : ∀ {v : Value} {w' : World}, (execOp (act fr).eval o).run P w = .ok (.value v) w' → K (putS fr o.dst (.val v)) w' → o.wp P (act fr) w K' Q := fun {v w'} hr hk => by
    unfold Oper.wp; rw [hr]; simp only [Oper.upon]
    have := hK _ _ hk
    rwa [act_put] at this
  have quiet : opQ P ty o fr w (fun v => K (putS fr o.dst v) w) → o.wp P (act fr) w K' Q := fun hq => by
    obtain ⟨v, hk, hr, _⟩ := quiet_ok hq
    unfold Oper.wp; rw [hr w (Below.refl _ _)]; simp only [Oper.upon]
    have := hK _ _ hk
    rwa [act_put] at this
  have pr : ∀ {s : Sem Value} {t : RT}, (execOp (act fr).eval o = (do let v ← s; pure (.value v))) → Pr P s w t (fun x w' => K (putS fr o.dst (.val (t.val x))) w') → o.wp P (act fr) w K' Q := by
    rintro s t he ⟨x, w', hr, hk⟩
    exact value (by rw [he]; exact run_val P _ _ _ _ hr) hk
  have pru : ∀ {s : Sem Unit}, (execOp (act fr).eval o = (do s; pure .skip)) → PrU P s w (fun w' => K (putS fr o.dst (.val undef)) w') → o.wp P (act fr) w K' Q := by
    rintro s he ⟨w', hr, hk⟩
    unfold Oper.wp; rw [he, run_unit P _ _ _ hr]; simp only [Oper.upon]
    have := hK _ _ hk
    rwa [act_put] at this
  obtain ⟨dst, op, type, pos, after, guard⟩ := o
  cases op with
  | call c =>
    obtain ⟨callee, args, argTypes⟩ := c
    cases callee with
    | value f =>
      simp only [opL, callV] at h
      split at h
      · rename_i fv g first cap hf
        obtain ⟨ent, run⟩ := h
        have hr : (execOp (act fr).eval ⟨dst, .call ⟨.value f, args, argTypes⟩, type, pos, after, guard⟩).run P w = .ok (.enter g (first ++ (evs fr args.toList).toArray ++ cap)) w := by
          simp only [execOp, resolve, evs_arr, act_eval, hf, Deferred.ofValue, pure_bind, invoke]
          exact ent _ _
        unfold Oper.wp; rw [hr]; simp only [Oper.upon]
        refine run.mono ?_
        rintro e w' ⟨x, rfl, hk⟩
        have := hK _ _ hk
        rwa [act_put] at this
      · exact h.elim
    | builtin b =>
      simp only [opL] at h
      cases hb : isL b with
      | true =>
        rw [hb] at h
        simp only [cond_true] at h
        refine pr ?_ h
        cases b <;> first | cases hb; done | simp only [execOp, resolve, evs_arr, pure_bind, invoke, builtin, builtinL]
      | false =>
        rw [hb] at h
        exact quiet h
    | invoke r m => exact h.elim
  | store t a x => exact pru (by simp only [execOp, act_eval]) h
  | mapUpdate t m k x => exact pru (by simp only [execOp, act_eval]) h
  | insert t m k x => exact pru (by simp only [execOp, act_eval]) h
  | alloc e => exact pr (t := .one .any) (by simp only [execOp]) h
  | box e x => exact pr (t := .one .any) (by simp only [execOp, act_eval]) h
  | build t ps => exact pr (t := .one .any) (by simp only [execOp, evPairs_arr]) h
  | buildSlice t n ps => exact pr (t := .one .any) (by simp only [execOp, evPairs_arr]) h
  | makeSlice t n c => exact pr (t := .one .any) (by simp only [execOp, act_eval]) h
  | makeMap t r =>
    have hm : ∀ q : Option Operand, q.map (act fr).eval = optV fr q := fun q => by cases q <;> simp [optV, act_eval]
    exact pr (t := .one .any) (by simp only [execOp, hm]) h
  | lookup t x k ok => exact pr (by simp only [execOp, act_eval]) h
  | convert a b x =>
    simp only [opL] at h
    cases hb : isInt (RT.at ty b) with
    | true => rw [hb] at h; exact quiet h
    | false => rw [hb] at h; exact pr (by simp only [execOp, act_eval]) h
  | _ => exact quiet h

/-! ### A row of operations, one behind the other -/
def wantedW (ops : Array Oper) (o : Oper) (fr : List SV) : Option Bool :=
  match o.guard with
  | none => some true
  | some (j, want) => match (ops[j]?).bind (·.dst) with
    | some t => match getS fr t with
      | .lit b => some (b == want)
      | .val (.tuple _) => some false
      | _ => none
    | none => none
def guardSrc (ops : Array Oper) (i : Nat) : Bool := ops.toList.any fun o => match o.guard with | some (j, _) => j == i | none => false
def splitFr (g : Bool) (d : Option Tmp) (fr : List SV) (K : List SV → Prop) : Prop :=
  match g, d with
  | true, some d => match getS fr d with
    | .val (.bool b) => splitB b fun b => K (setS fr d (.lit b))
    | _ => K fr
  | _, _ => K fr
def WL (P : Program) (ty : List RT) (ops : Array Oper) (K : List SV → World → Prop) : Nat → List Oper → List SV → World → Prop
  | _, [], fr, w => K fr w
  | i, o :: rest, fr, w => match wantedW ops o fr with
    | some true => opL P ty o fr w fun fr' w' => splitFr (guardSrc ops i) o.dst fr' fun fr'' => WL P ty ops K (i + 1) rest fr'' w'
    | some false => WL P ty ops K (i + 1) rest (putS fr o.dst (.val undef)) w
    | none => False

theorem map_set_same : ∀ (l : List SV) (d : Nat) (v : SV), v.den = (getS l d).den → (setS l d v).map SV.den = l.map SV.den
  | [], _, _, _ => rfl
  | x :: l, 0, v, h => by simp only [setS, List.map_cons]; rw [h]; rfl
  | x :: l, n + 1, v, h => by simp only [setS, List.map_cons]; rw [map_set_same l n v h]
theorem splitFr_ok {g : Bool} {d : Option Tmp} {fr : List SV} {K : List SV → Prop} {G : Act → Prop} (hK : ∀ fr, K fr → G (act fr)) (h : splitFr g d fr K) : G (act fr) := by
  unfold splitFr at h
  split at h
  · rename_i d
    split at h
    · rename_i b hb
      have same : ∀ c, b = c → act (setS fr d (.lit c)) = act fr := fun c hc => by
        unfold act
        rw [map_set_same fr d (.lit c) (by rw [hb]; simp [SV.den, hc])]
      cases b with
      | true => have := hK _ (h.1 rfl); rwa [same true rfl] at this
      | false => have := hK _ (h.2 rfl); rwa [same false rfl] at this
    · exact hK _ h
  · exact hK _ h
theorem wantedW_ok {ops : Array Oper} {o : Oper} {fr : List SV} {b : Bool} (h : wantedW ops o fr = some b) : Region.wanted o (yielded ops (act fr).tmps) = b := by
  unfold wantedW at h
  unfold Region.wanted
  split at h
  · rename_i hg; rw [hg]; exact Option.some.inj h
  · rename_i j want hg
    rw [hg]
    simp only
    split at h
    · rename_i t ht
      split at h
      · rename_i c hc
        have hy : yielded ops (act fr).tmps j = some c := by
          unfold yielded
          rw [ht]
          have h1 : (act fr).tmps.getD t undef = .bool c := by
            show (fr.map SV.den).toArray.getD t undef = _
            rw [← getS_den, hc]; rfl
          have h2 : (act fr).tmps[t]? = some (.bool c) := by
            cases hq : (act fr).tmps[t]? with
            | none => rw [Array.getD_eq_getD_getElem?, hq] at h1; simp [undef] at h1
            | some x => rw [Array.getD_eq_getD_getElem?, hq] at h1; simpa using h1
          simp [h2]
        rw [hy]
        have := Option.some.inj h
        rw [← this]
        cases c <;> cases want <;> rfl
      · rename_i vs hc
        have hy : yielded ops (act fr).tmps j = none := by
          unfold yielded
          rw [ht]
          have h1 : (act fr).tmps.getD t undef = .tuple vs := by
            show (fr.map SV.den).toArray.getD t undef = _
            rw [← getS_den, hc]; rfl
          cases hq : (act fr).tmps[t]? with
          | none => simp [hq]
          | some x => rw [Array.getD_eq_getD_getElem?, hq] at h1; simp at h1; simp [hq, h1]
        rw [hy]
        have := Option.some.inj h
        rw [← this]
        rfl
      · cases h
    · cases h
theorem WL_ok {P : Program} {ty : List RT} {ops : Array Oper} {K : List SV → World → Prop} {Q : Exit → Act → World → Prop} (hK : ∀ fr w, K fr w → Q .normal (act fr) w) :
    ∀ (l : List Oper) (i : Nat) (fr : List SV) (w : World), WL P ty ops K i l fr w → wpList P ops Q l (act fr) w
  | [], _, fr, w, h => hK fr w h
  | o :: l, i, fr, w, h => by
    unfold WL at h
    split at h
    · rename_i hw
      unfold wpList
      rw [if_pos (wantedW_ok hw)]
      exact .inl (opL_ok (fun fr' w' hk => splitFr_ok (G := fun a => wpList P ops Q l a w') (fun fr'' hk => WL_ok hK l (i + 1) fr'' w' hk) hk) h)
    · rename_i hw
      unfold wpList
      rw [wantedW_ok hw, if_neg (by simp)]
      have := WL_ok hK l (i + 1) _ w h
      rwa [act_put] at this
    · exact h.elim

/-! ### A region that draws its order -/
section
variable {P : Program} {ops : Array Oper} {Q : Exit → Act → World → Prop} {S : World → Prop} {B : Nat → Bool}
/-- Whatever order is picked from here on; behind each operation that B does not name, the world meets S. -/
def wpAnyC (P : Program) (ops : Array Oper) (Q : Exit → Act → World → Prop) (S : World → Prop) (B : Nat → Bool) : Nat → Array Bool → Act → World → Prop
  | 0, listed, a, w => Region.ready .any ops listed = [] ∧ Q .normal a w
  | fuel + 1, listed, a, w =>
    (Region.ready .any ops listed = [] → Q .normal a w) ∧
    ∀ i ∈ Region.ready .any ops listed, wpOp P ops Q i (fun a' w' => (B i = true → wpAny P .any ops Q fuel (listed.setIfInBounds i true) a' w') ∧
      (B i = false → S w' ∧ wpAnyC P ops Q S B fuel (listed.setIfInBounds i true) a' w')) a w
theorem wpAny_of_C : ∀ (fuel : Nat) (listed : Array Bool) (a : Act) (w : World), wpAnyC P ops Q S B fuel listed a w → wpAny P .any ops Q fuel listed a w
  | 0, _, _, _, h => h
  | fuel + 1, _, _, _, h => ⟨h.1, fun i hi => wpOp_mono (fun a' w' h' => by
      cases hb : B i with
      | true => exact h'.1 hb
      | false => exact wpAny_of_C fuel _ a' w' (h'.2 hb).2) (h.2 i hi)⟩
theorem wpAnyC_mono {S' : World → Prop} (hS : ∀ w, S w → S' w) : ∀ (fuel : Nat) (listed : Array Bool) (a : Act) (w : World), wpAnyC P ops Q S B fuel listed a w → wpAnyC P ops Q S' B fuel listed a w
  | 0, _, _, _, h => h
  | fuel + 1, _, _, _, h => ⟨h.1, fun i hi => wpOp_mono (fun a' w' h' => ⟨h'.1, fun hb => ⟨hS _ (h'.2 hb).1, wpAnyC_mono hS fuel _ a' w' (h'.2 hb).2⟩⟩) (h.2 i hi)⟩
theorem not_ready_of_waits {i : Nat} {oj : Oper} {listed : Array Bool} (hi : i ∈ Region.ready .any ops listed)
    (hall : ∀ e ∈ oj.after, Region.binds .any e = true → listed.getD e.on false = true) : ∀ e ∈ oj.after, Region.binds .any e = true → e.on ≠ i := fun e he hb heq => by
  have h1 := hall e he hb
  have h0 := (mem_ready.1 hi).1
  rw [heq] at h1
  rcases Nat.lt_or_ge i listed.size with h' | h'
  · simp [h'] at h0 h1; rw [h0] at h1; cases h1
  · simp [Array.getElem?_eq_none h'] at h1
theorem free_set {i j : Nat} {oi : Oper} {listed : Array Bool} (hjun : listed.getD j true = false)
    (hfree : ∀ j oj, ops[j]? = some oj → j ≠ i → listed.getD j true = false → (∀ e ∈ oj.after, Region.binds .any e = true → e.on ≠ i) → oi.apart ops oj = true) :
    ∀ k ok, ops[k]? = some ok → k ≠ i → (listed.setIfInBounds j true).getD k true = false → (∀ e ∈ ok.after, Region.binds .any e = true → e.on ≠ i) → oi.apart ops ok = true := fun k ok hk hki hun hno => by
  refine hfree k ok hk hki ?_ hno
  by_cases hjk : j = k
  · subst hjk; exact hjun
  · rw [getD_set_ne true hjk] at hun; exact hun
/-- One that looks into memory may be taken first: whoever turns what S keeps waits for it. -/
theorem takeC {i : Nat} {oi : Oper} {v : Value} (hi : ops[i]? = some oi) (hsel : ∀ (j : Nat) (o : Oper) cs b, ops[j]? = some o → o.op ≠ .select cs b)
    (hQ : ∀ c a w, Q (.panic c) (a.put oi.dst v) w → Q (.panic c) a w)
    (hB : ∀ j oj, ops[j]? = some oj → B j = true → ∃ e ∈ oj.after, Region.binds .any e = true ∧ e.on = i) :
    ∀ (fuel : Nat) (listed : Array Bool) (a : Act) (w : World),
      (∀ j oj, ops[j]? = some oj → j ≠ i → listed.getD j true = false → (∀ e ∈ oj.after, Region.binds .any e = true → e.on ≠ i) → oi.apart ops oj = true) →
      i ∈ Region.ready .any ops listed → YieldsIf P ops S oi v a → S w →
      wpAnyC P ops Q S B fuel (listed.setIfInBounds i true) (a.put oi.dst v) w → wpAnyC P ops Q S B (fuel + 1) listed a w := by
  intro fuel
  induction fuel with
  | zero =>
    intro listed a w _ hr hy hS H
    refine ⟨fun h => (by rw [h] at hr; cases hr), fun j hj => ?_⟩
    by_cases hji : j = i
    · subst hji; exact hy.wpOp hi hS ⟨fun _ => wpAny_of_C _ _ _ _ H, fun _ => ⟨hS, H⟩⟩
    · have := ready_mono hj hji
      rw [H.1] at this
      cases this
  | succ fuel ih =>
    intro listed a w hfree hr hy hS H
    refine ⟨fun h => (by rw [h] at hr; cases hr), fun j hj => ?_⟩
    by_cases hji : j = i
    · subst hji; exact hy.wpOp hi hS ⟨fun _ => wpAny_of_C _ _ _ _ H, fun _ => ⟨hS, H⟩⟩
    · have h1 := H.2 j (ready_mono hj hji)
      obtain ⟨hjun, oj, hoj, hall⟩ := mem_ready.1 hj
      have hnot := not_ready_of_waits hr hall
      have hbj : B j = false := by
        cases hb : B j with
        | false => rfl
        | true =>
          obtain ⟨e, he, hb1, heq⟩ := hB j oj hoj hb
          exact absurd heq (hnot e he hb1)
      have h2 := wpOp_putIf hoj (hfree j oj hoj hji hjun hnot) (fun cs b => hsel i oi cs b hi) (fun cs b => hsel j oj cs b hoj) hQ hy h1
      refine wpOp_mono (fun a' w' h3 => ⟨fun h => (by rw [hbj] at h; cases h), fun _ => ⟨(h3.2.2 hbj).1, ih (listed.setIfInBounds j true) a' w' (free_set hjun hfree) (ready_mono hr (Ne.symm hji)) h3.1 (h3.2.2 hbj).1 ?_⟩⟩) h2
      rw [Array.setIfInBounds_comm _ _ hji]
      exact (h3.2.2 hbj).2
/-- One that yields its value in whatever world may be taken first. -/
theorem takeC_any {i : Nat} {oi : Oper} {v : Value} (hi : ops[i]? = some oi) (hsel : ∀ (j : Nat) (o : Oper) cs b, ops[j]? = some o → o.op ≠ .select cs b)
    (hQ : ∀ c a w, Q (.panic c) (a.put oi.dst v) w → Q (.panic c) a w) :
    ∀ (fuel : Nat) (listed : Array Bool) (a : Act) (w : World),
      (∀ j oj, ops[j]? = some oj → j ≠ i → listed.getD j true = false → (∀ e ∈ oj.after, Region.binds .any e = true → e.on ≠ i) → oi.apart ops oj = true) →
      i ∈ Region.ready .any ops listed → Yields P ops oi v a → S w →
      wpAnyC P ops Q S B fuel (listed.setIfInBounds i true) (a.put oi.dst v) w → wpAnyC P ops Q S B (fuel + 1) listed a w := by
  intro fuel
  induction fuel with
  | zero =>
    intro listed a w _ hr hy hS H
    refine ⟨fun h => (by rw [h] at hr; cases hr), fun j hj => ?_⟩
    by_cases hji : j = i
    · subst hji; exact hy.wpOp hi ⟨fun _ => wpAny_of_C _ _ _ _ H, fun _ => ⟨hS, H⟩⟩
    · have := ready_mono hj hji
      rw [H.1] at this
      cases this
  | succ fuel ih =>
    intro listed a w hfree hr hy hS H
    refine ⟨fun h => (by rw [h] at hr; cases hr), fun j hj => ?_⟩
    by_cases hji : j = i
    · subst hji; exact hy.wpOp hi ⟨fun _ => wpAny_of_C _ _ _ _ H, fun _ => ⟨hS, H⟩⟩
    · have h1 := H.2 j (ready_mono hj hji)
      obtain ⟨hjun, oj, hoj, hall⟩ := mem_ready.1 hj
      have hnot := not_ready_of_waits hr hall
      have h2 := wpOp_put hoj (hfree j oj hoj hji hjun hnot) (fun cs b => hsel i oi cs b hi) (fun cs b => hsel j oj cs b hoj) hQ hy h1
      refine wpOp_mono (fun a' w' h3 => ⟨fun hb => ?_, fun hb => ⟨(h3.2.2 hb).1, ih (listed.setIfInBounds j true) a' w' (free_set hjun hfree) (ready_mono hr (Ne.symm hji)) h3.1 (h3.2.2 hb).1 ?_⟩⟩) h2
      · refine wpAny_first hi hsel hQ fuel (listed.setIfInBounds j true) a' w' (free_set hjun hfree) (ready_mono hr (Ne.symm hji)) h3.1 ?_
        rw [Array.setIfInBounds_comm _ _ hji]
        exact h3.2.1 hb
      · rw [Array.setIfInBounds_comm _ _ hji]
        exact (h3.2.2 hb).2
end
def waitsOn (ops : Array Oper) (j i : Nat) : Bool :=
  match ops[j]? with
  | some oj => oj.after.any fun e => Region.binds .any e && e.on == i
  | none => false
/-- Those that wait for all that look into memory. -/
def lastB (ty : List RT) (ops : Array Oper) (j : Nat) : Bool :=
  (match ops[j]? with | some o => !quietOp ty o | none => false) &&
  (List.range ops.size).all fun i => match ops[i]? with | some o => !loadOp o || waitsOn ops j i | none => true
def pickD (ty : List RT) (ops : Array Oper) (listed : Array Bool) (fr : List SV) : List Nat → Option Nat
  | [] => none
  | i :: r => match ops[i]? with
    | some o => bif ((quietOp ty o || (match wantedW ops o fr with | some false => true | _ => false)) && Region.free .any ops listed i) then some i else pickD ty ops listed fr r
    | none => pickD ty ops listed fr r
def allD (f : Nat → Prop) : List Nat → Prop
  | [] => True
  | [i] => f i
  | i :: j :: r => f i ∧ allD f (j :: r)
/-- Whether one that looks into memory is still to come. -/
def pend (ops : Array Oper) (listed : Array Bool) : Bool :=
  (List.range ops.size).any fun i => match ops[i]? with | some o => loadOp o && !listed.getD i true | none => false
theorem pend_set {ops : Array Oper} {listed : Array Bool} {i : Nat} (h : pend ops (listed.setIfInBounds i true) = true) : pend ops listed = true := by
  unfold pend at h ⊢
  rw [List.any_eq_true] at h ⊢
  obtain ⟨k, hk, hp⟩ := h
  refine ⟨k, hk, ?_⟩
  split at hp
  · rename_i o ho
    simp only [Bool.and_eq_true, Bool.not_eq_true'] at hp ⊢
    refine ⟨hp.1, ?_⟩
    by_cases hik : i = k
    · subst hik
      have := hp.2
      by_cases hl : i < listed.size
      · simp [hl] at this
      · simp [hl] at this
    · rw [getD_set_ne true hik] at hp; exact hp.2
  · cases hp
theorem pend_load {ops : Array Oper} {listed : Array Bool} {i : Nat} {o : Oper} (ho : ops[i]? = some o) (hl : loadOp o = true) (hi : i ∈ Region.ready .any ops listed) : pend ops listed = true := by
  unfold pend
  rw [List.any_eq_true]
  refine ⟨i, List.mem_range.2 (Array.getElem?_eq_some_iff.1 ho).1, ?_⟩
  simp [ho, hl, (mem_ready.1 hi).1]
def sOf : Option World → World → Prop
  | none, _ => True
  | some wr, w => Below wr.heap.size wr w
def keepsO : Option World → World → Prop → Prop
  | none, _, K => K
  | some wr, w', K => Keeps wr w' K
/-- wr: the world that those which are still to look, or have looked, hold on to. -/
def WD (P : Program) (ty : List RT) (ops : Array Oper) (K : List SV → World → Prop) : Nat → Array Bool → List SV → World → Option World → Prop
  | 0, listed, fr, w, _ => bif (Region.ready .any ops listed).isEmpty then K fr w else False
  | n + 1, listed, fr, w, wr =>
    match Region.ready .any ops listed with
    | [] => K fr w
    | i0 :: r => match pickD ty ops listed fr (i0 :: r) with
      | some i => match ops[i]? with
        | some o => match wantedW ops o fr with
          | some true => bif quietOp ty o then opQ P ty o fr w fun v => splitFr (guardSrc ops i) o.dst (putS fr o.dst v) fun fr' => WD P ty ops K n (listed.setIfInBounds i true) fr' w wr else False
          | some false => WD P ty ops K n (listed.setIfInBounds i true) (putS fr o.dst (.val undef)) w wr
          | none => False
        | none => False
      | none => allD (fun i => match ops[i]? with
        | some o => match wantedW ops o fr with
          | some true => opL P ty o fr w fun fr' w' => splitFr (guardSrc ops i) o.dst fr' fun fr'' =>
              bif lastB ty ops i then WD P ty ops K n (listed.setIfInBounds i true) fr'' w' (bif pend ops (listed.setIfInBounds i true) then some w' else none)
              else bif pend ops listed then Keeps w w' (WD P ty ops K n (listed.setIfInBounds i true) fr'' w' (some w'))
              else keepsO wr w' (WD P ty ops K n (listed.setIfInBounds i true) fr'' w' wr)
          | _ => False
        | none => False) (i0 :: r)
theorem allD_all {f : Nat → Prop} : ∀ {l : List Nat}, allD f l → ∀ i ∈ l, f i
  | [], _, _, hi => by cases hi
  | [i], h, j, hj => by simp at hj; subst hj; exact h
  | i :: k :: r, h, j, hj => by
    cases hj with
    | head => exact h.1
    | tail _ hj => exact allD_all h.2 j hj
theorem pickD_ok {ty : List RT} {ops : Array Oper} {listed : Array Bool} {fr : List SV} {i : Nat} : ∀ {l : List Nat}, pickD ty ops listed fr l = some i → i ∈ l ∧ Region.free .any ops listed i = true
  | [], h => by cases h
  | k :: r, h => by
    unfold pickD at h
    split at h
    · rename_i o ho
      generalize hb : ((quietOp ty o || _) && _) = b at h
      cases b with
      | true =>
        have : k = i := Option.some.inj h
        subst this
        exact ⟨List.mem_cons_self, by simp at hb; exact hb.2⟩
      | false => exact ⟨List.mem_cons_of_mem _ (pickD_ok h).1, (pickD_ok h).2⟩
    · exact ⟨List.mem_cons_of_mem _ (pickD_ok h).1, (pickD_ok h).2⟩
theorem lastB_waits {ty : List RT} {ops : Array Oper} {i j : Nat} {oi oj : Oper} (hi : ops[i]? = some oi) (hl : loadOp oi = true) (hj : ops[j]? = some oj) (h : lastB ty ops j = true) :
    ∃ e ∈ oj.after, Region.binds .any e = true ∧ e.on = i := by
  unfold lastB at h
  simp only [Bool.and_eq_true, List.all_eq_true, List.mem_range] at h
  have := h.2 i (Array.getElem?_eq_some_iff.1 hi).1
  simp only [hi, hl, Bool.not_true, Bool.false_or] at this
  unfold waitsOn at this
  rw [hj] at this
  obtain ⟨e, he, hb⟩ := Array.any_eq_true'.1 this
  simp only [Bool.and_eq_true, beq_iff_eq] at hb
  exact ⟨e, he, hb.1, hb.2⟩
theorem WD_ok {P : Program} {ty : List RT} {ops : Array Oper} {K : List SV → World → Prop} {Q : Exit → Act → World → Prop} (hs : Region.noSelect ops = true)
    (hK : ∀ fr w, K fr w → Q .normal (act fr) w) (hQ : ∀ c d v a w, Q (.panic c) (a.put d v) w → Q (.panic c) a w) :
    ∀ (n : Nat) (listed : Array Bool) (fr : List SV) (w : World) (wr : Option World), sOf wr w → (pend ops listed = true → wr = some w) → WD P ty ops K n listed fr w wr → wpAnyC P ops Q (sOf wr) (lastB ty ops) n listed (act fr) w := by
  intro n
  induction n with
  | zero =>
    intro listed fr w wr hwr hpr h
    unfold WD at h
    cases hr : (Region.ready .any ops listed).isEmpty with
    | true => rw [hr] at h; exact ⟨by simpa using hr, hK _ _ h⟩
    | false => rw [hr] at h; exact h.elim
  | succ n ih =>
    intro listed fr w wr hwr hpr h
    unfold WD at h
    split at h
    · rename_i hr
      exact ⟨fun _ => hK _ _ h, by rw [hr]; intro i hi; cases hi⟩
    · rename_i i0 r hr
      split at h
      · rename_i i hp
        obtain ⟨him, hfree⟩ := pickD_ok hp
        rw [← hr] at him
        split at h
        · rename_i o ho
          have hfr := Region.free_spec ho hfree
          split at h
          · rename_i hw
            cases hq : quietOp ty o with
            | false => rw [hq] at h; exact h.elim
            | true =>
              rw [hq] at h
              simp only [cond_true] at h
              obtain ⟨v, hk, hsub, hany⟩ := quiet_ok h
              have hk' : wpAnyC P ops Q (sOf wr) (lastB ty ops) n (listed.setIfInBounds i true) ((act fr).put o.dst v.den) w := by
                rw [← act_put]
                exact splitFr_ok (G := fun a => wpAnyC P ops Q (sOf wr) (lastB ty ops) n (listed.setIfInBounds i true) a w) (fun fr' hk => ih _ _ _ _ hwr (fun hp => hpr (pend_set hp)) hk) hk
              cases hl : loadOp o with
              | true => exact takeC ho (Region.noSelect_spec hs) (fun c a w => hQ c _ _ a w) (fun j oj hj hb => lastB_waits ho hl hj hb) n listed (act fr) w hfr him (.inl ⟨wantedW_ok hw, by rw [hpr (pend_load ho hl him)]; exact hsub⟩) hwr hk'
              | false => exact takeC_any ho (Region.noSelect_spec hs) (fun c a w => hQ c _ _ a w) n listed (act fr) w hfr him (.inl ⟨wantedW_ok hw, hany hl⟩) hwr hk'
          · rename_i hw
            have hk' := ih _ _ _ _ hwr (fun hp => hpr (pend_set hp)) h
            rw [act_put] at hk'
            exact takeC_any ho (Region.noSelect_spec hs) (fun c a w => hQ c _ _ a w) n listed (act fr) w hfr him (.inr ⟨wantedW_ok hw, rfl⟩) hwr hk'
          · exact h.elim
        · exact h.elim
      · refine ⟨fun h0 => (by rw [h0] at hr; cases hr), fun i hi => ?_⟩
        rw [hr] at hi
        have h' := allD_all h i hi
        unfold wpOp
        split at h'
        · rename_i o ho
          split at h'
          · rename_i hw
            simp only [ho]
            rw [if_pos (wantedW_ok hw)]
            refine .inl (opL_ok (fun fr' w' hk => splitFr_ok (G := fun a => (lastB ty ops i = true → wpAny P .any ops Q n (listed.setIfInBounds i true) a w') ∧
              (lastB ty ops i = false → sOf wr w' ∧ wpAnyC P ops Q (sOf wr) (lastB ty ops) n (listed.setIfInBounds i true) a w')) (fun fr'' hk2 => ?_) hk) h')
            clear h'
            cases hb : lastB ty ops i with
            | true =>
              rw [hb] at hk2
              refine ⟨fun _ => wpAny_of_C _ _ _ _ (ih _ _ _ _ ?_ (fun hp => by rw [hp]; rfl) hk2), fun h => (by cases h)⟩
              cases pend ops (listed.setIfInBounds i true) with
              | true => exact Below.refl _ _
              | false => exact True.intro
            | false =>
              rw [hb] at hk2
              cases hp : pend ops listed with
              | true =>
                rw [hp] at hk2
                obtain ⟨hbel, hk2⟩ := hk2
                have hw := hpr hp
                subst hw
                exact ⟨fun h => (by cases h), fun _ => ⟨hbel, wpAnyC_mono (fun w'' hb'' => hbel.trans (hb''.mono hbel.size)) _ _ _ _ (ih _ _ _ (some _) (Below.refl _ _) (fun _ => rfl) hk2)⟩⟩
              | false =>
                rw [hp] at hk2
                have hk3 : sOf wr w' ∧ WD P ty ops K n (listed.setIfInBounds i true) fr'' w' wr := by
                  cases wr with
                  | none => exact ⟨True.intro, hk2⟩
                  | some w0 => exact ⟨hk2.below, hk2.k⟩
                obtain ⟨hbel, hk2⟩ := hk3
                exact ⟨fun h => (by cases h), fun _ => ⟨hbel, ih _ _ _ _ hbel (fun h => by have := pend_set h; rw [hp] at this; cases this) hk2⟩⟩
          · exact h'.elim
        · exact h'.elim

/-! ### Code -/
abbrev Post := Exit → List SV → World → Prop
def thenW (next : List SV → World → Prop) (Φ : Post) : Post
  | .normal, fr, w => next fr w
  | e, fr, w => Φ e fr w
def blockW (id : Nat) (Φ : Post) : Post
  | .exit id', fr, w => bif id' == id then Φ .normal fr w else Φ (.exit id') fr w
  | e, fr, w => Φ e fr w
def condW (x y : Prop) : SV → Prop
  | .lit true => x
  | .lit false => y
  | .val (.bool b) => splitB b fun b => bif b then x else y
  | _ => False
/-- A world that has drawn once more. -/
def Drew (w w' : World) : Prop := w' = w.drewN 1
theorem Drew.heap {w w' : World} (h : Drew w w') : w'.heap = w.heap := by unfold Drew at h; subst h; rfl
theorem Drew.below {w w' : World} (h : Drew w w') (B : Nat) : Below B w w' := by unfold Drew at h; subst h; exact ⟨rfl, rfl, rfl, Nat.le_refl _, fun _ _ => rfl⟩
def W (P : Program) (ty : List RT) (LW : Code → Post → List SV → World → Prop) : Code → Post → List SV → World → Prop
  | .skip, Φ, fr, w => Φ .normal fr w
  | .label _, Φ, fr, w => Φ .normal fr w
  | .seq x y, Φ, fr, w => W P ty LW x (thenW (W P ty LW y Φ) Φ) fr w
  | .cond c x y, Φ, fr, w => condW (W P ty LW x Φ fr w) (W P ty LW y Φ fr w) (evS fr c)
  | .block id c, Φ, fr, w => W P ty LW c (blockW id Φ) fr w
  | .exit id, Φ, fr, w => Φ (.exit id) fr w
  | .ret, Φ, fr, w => Φ .ret fr w
  | .region _ ops d, Φ, fr, w =>
    bif d then ∀ w', Drew w w' → (bif Region.noSelect ops then WD P ty ops (Φ .normal) ops.size (Array.replicate ops.size false) fr w' (some w') else False)
    else WL P ty ops (Φ .normal) 0 ops.toList fr w
  | .loop c, Φ, fr, w => LW c Φ fr w
  | _, _, _, _ => False
/-- The same, said of the machine's frames. -/
def up (Φ : Post) : Exit → Act → World → Prop := fun e a w => ∃ fr, act fr = a ∧ Φ e fr w
def Sound (P : Program) (LW : Code → Post → List SV → World → Prop) : Prop := ∀ c Φ fr w, LW c Φ fr w → (Code.loop c).wp P (up Φ) (act fr) w
theorem W_ok {P : Program} {ty : List RT} {LW : Code → Post → List SV → World → Prop} (hm : P.follows .mixedOrders = true) (hL : Sound P LW) :
    ∀ (c : Code) (Φ : Post) (fr : List SV) (w : World), W P ty LW c Φ fr w → c.wp P (up Φ) (act fr) w
  | .skip, Φ, fr, w, h => wp_skip ⟨fr, rfl, h⟩
  | .label _, Φ, fr, w, h => wp_label ⟨fr, rfl, h⟩
  | .exit _, Φ, fr, w, h => wp_exit ⟨fr, rfl, h⟩
  | .ret, Φ, fr, w, h => wp_ret ⟨fr, rfl, h⟩
  | .seq x y, Φ, fr, w, h => by
    refine wp_seq (wp_mono (W_ok hm hL x _ fr w h) ?_)
    rintro e a w' ⟨fr', rfl, h'⟩
    cases e <;> first | exact W_ok hm hL y Φ fr' w' h' | exact ⟨fr', rfl, h'⟩
  | .cond c x y, Φ, fr, w, h => by
    have hc : (act fr).eval c = (evS fr c).den := act_eval fr c
    simp only [W] at h
    generalize evS fr c = sc at *
    unfold condW at h
    split at h
    · exact wp_cond_true hc (W_ok hm hL x Φ fr w h)
    · exact wp_cond_false hc (W_ok hm hL y Φ fr w h)
    · rename_i b
      cases b with
      | true => exact wp_cond_true hc (W_ok hm hL x Φ fr w (h.1 rfl))
      | false => exact wp_cond_false hc (W_ok hm hL y Φ fr w (h.2 rfl))
    · exact h.elim
  | .block id c, Φ, fr, w, h => by
    refine wp_block (wp_mono (W_ok hm hL c _ fr w h) ?_)
    rintro e a w' ⟨fr', rfl, h'⟩
    cases e <;> first
      | (rename_i id'
         simp only [blockW] at h'
         simp only [Exit.inBlock]
         cases hb : (id' == id) with
         | true => rw [hb] at h'; rw [if_pos (by simpa using hb)]; exact ⟨fr', rfl, h'⟩
         | false => rw [hb] at h'; rw [if_neg (by simpa using hb)]; exact ⟨fr', rfl, h'⟩)
      | exact ⟨fr', rfl, h'⟩
  | .region id ops d, Φ, fr, w, h => by
    cases d with
    | false =>
      refine wp_region_list (WL_ok (K := Φ .normal) (fun fr' w' hk => ⟨fr', rfl, hk⟩) ops.toList 0 fr w h)
    | true =>
      have h' := h (w.drewN 1) rfl
      cases hs : Region.noSelect ops with
      | false => rw [hs] at h'; exact h'.elim
      | true =>
        rw [hs] at h'
        refine wp_region_noPanic (wp_region_any hm (wpAny_of_C _ _ _ _ (WD_ok (K := Φ .normal) hs (fun fr' w' hk => ?_) ?_ _ _ _ _ (some _) (Below.refl _ _) (fun _ => rfl) h')))
        · exact ⟨fr', rfl, hk⟩
        · intro c d v a w hq; exact hq
  | .loop c, Φ, fr, w, h => hL c Φ fr w h
  | .rangeFunc .., _, _, _, h => h.elim
  | .goto _, _, _, _, h => h.elim
  | .scope _, _, _, _, h => h.elim
  | .refuse _, _, _, _, h => h.elim

/-! ### Frames with open places -/
inductive Slot where
  | junk | k (t : TK)
def Vals : List Slot → Type
  | [] => Unit
  | .junk :: r => Vals r
  | .k t :: r => t.T × Vals r
def shape1 : TK → Value → Bool
  | .int k, .int k' _ => sameK k k'
  | .bool, .bool _ => true
  | .str, .string _ => true
  | .any, _ => true
  | _, _ => false
def ext1 : (t : TK) → Value → t.T
  | .int _, .int _ n => n
  | .int _, _ => (0 : Int)
  | .bool, .bool b => b
  | .bool, _ => false
  | .str, .string s => s
  | .str, _ => ByteArray.empty
  | .any, v => v
def shapeT : List Slot → List SV → Bool
  | [], [] => true
  | .junk :: r, _ :: fr => shapeT r fr
  | .k t :: r, x :: fr => shape1 t x.den && shapeT r fr
  | _, _ => false
def extT : (sp : List Slot) → List SV → Vals sp
  | [], _ => ()
  | .junk :: r, fr => extT r fr.tail
  | .k t :: r, fr => (ext1 t (getS fr 0).den, extT r fr.tail)
def mkT (j : Nat → Value) : Nat → (sp : List Slot) → Vals sp → List SV
  | _, [], _ => []
  | i, .junk :: r, v => .val (j i) :: mkT j (i + 1) r v
  | i, .k t :: r, v => .val (t.val v.1) :: mkT j (i + 1) r v.2
theorem shape1_ok {t : TK} {v : Value} (h : shape1 t v = true) : v = t.val (ext1 t v) := by
  unfold shape1 at h
  split at h <;> first | rfl | (rw [sameK_eq h]; rfl) | cases h
theorem shapeT_ok : ∀ (sp : List Slot) (fr : List SV), shapeT sp fr = true → ∀ (j : Nat → Value) (i : Nat), (∀ n, j (i + n) = (getS fr n).den) → fr.map SV.den = (mkT j i sp (extT sp fr)).map SV.den
  | [], [], _, _, _, _ => rfl
  | .junk :: r, x :: fr, h, j, i, hj => by
    have h0 : j i = x.den := hj 0
    have := shapeT_ok r fr h j (i + 1) (fun n => by have := hj (n + 1); rwa [show i + (n + 1) = i + 1 + n from by omega] at this)
    simp only [List.map_cons, mkT, extT, List.tail_cons]
    rw [h0, this]
    rfl
  | .k t :: r, x :: fr, h, j, i, hj => by
    simp only [shapeT, Bool.and_eq_true] at h
    have := shapeT_ok r fr h.2 j (i + 1) (fun n => by have := hj (n + 1); rwa [show i + (n + 1) = i + 1 + n from by omega] at this)
    simp only [List.map_cons, mkT, extT, List.tail_cons, getS]
    rw [this]
    congr 1
    exact shape1_ok h.1
  | [], _ :: _, h, _, _, _ => by cases h
  | .junk :: _, [], h, _, _, _ => by cases h
  | .k _ :: _, [], h, _, _, _ => by cases h
theorem shape_mk {sp : List Slot} {fr : List SV} (h : shapeT sp fr = true) : ∃ j, act fr = act (mkT j 0 sp (extT sp fr)) :=
  ⟨fun n => (getS fr n).den, by unfold act; rw [shapeT_ok sp fr h (fun n => (getS fr n).den) 0 (fun n => by simp)]⟩
structure Door where
  sp : List Slot
  D : Vals sp → World → Prop
def doorW (d : Door) (fr : List SV) (w : World) : Prop := bif shapeT d.sp fr then d.D (extT d.sp fr) w else False
def doorOf (Φ : Post) (e : Exit) (sp : List Slot) : Door := ⟨sp, fun v w => ∀ j, Φ e (mkT j 0 sp v) w⟩
def doorsW : List (Nat × Door) → Nat → List SV → World → Prop
  | [], _, _, _ => False
  | (k, d) :: r, n, fr, w => bif n == k then doorW d fr w else doorsW r n fr w
def loopPost (sp : List Slot) (exits : List (Nat × Door)) (ret : Door) (N : Vals sp → World → Prop) : Post
  | .normal, fr, w => doorW ⟨sp, N⟩ fr w
  | .exit k, fr, w => doorsW exits k fr w
  | .ret, fr, w => doorW ret fr w
  | _, _, _ => False
theorem doorOf_ok {Φ : Post} {e : Exit} {sp : List Slot} {fr : List SV} {w : World} (h : doorW (doorOf Φ e sp) fr w) : up Φ e (act fr) w := by
  unfold doorW at h
  cases hs : shapeT (doorOf Φ e sp).sp fr with
  | false => rw [hs] at h; exact h.elim
  | true =>
    rw [hs] at h
    obtain ⟨j, hj⟩ := shape_mk hs
    exact ⟨_, hj.symm, h j⟩
theorem doorsOf_ok {Φ : Post} {fr : List SV} {w : World} {n : Nat} : ∀ {l : List (Nat × List Slot)}, doorsW (l.map fun x => (x.1, doorOf Φ (.exit x.1) x.2)) n fr w → up Φ (.exit n) (act fr) w
  | [], h => h.elim
  | (k, sp) :: r, h => by
    simp only [List.map_cons, doorsW] at h
    cases hb : (n == k) with
    | true =>
      rw [hb] at h
      have : n = k := by simpa using hb
      subst this
      exact doorOf_ok h
    | false => rw [hb] at h; exact doorsOf_ok h
/-- A loop: what holds at each round's head, and a measure that each round lowers. -/
structure LOOP {U S : Type} (u : U) (body : (U → S → World → Prop) → S → World → Prop) (s : S) (w : World) : Prop where
  ex : ∃ (I : S → World → Prop) (μ : S → World → Nat), I s w ∧ ∀ s w, I s w → body (fun u' s' w' => u' = u ∧ I s' w' ∧ μ s' w' < μ s w) s w
/-- The loop's own code, held against the one that was read. -/
structure At (c c' : Code) (X : Prop) : Prop where
  eq : c = c'
  x : X
theorem loop_ok {P : Program} {ty : List RT} {LW : Code → Post → List SV → World → Prop} (hm : P.follows .mixedOrders = true) (hL : Sound P LW) {c : Code} (sp : List Slot) {U S : Type}
    (pu : Vals sp → U) (ps : Vals sp → S) (pk : U → S → Vals sp) (hpk : ∀ v, pk (pu v) (ps v) = v) (exits : List (Nat × List Slot)) (ret : List Slot) {Φ : Post}
    {body : U → (U → S → World → Prop) → S → World → Prop}
    (hround : ∀ j u s w (N : U → S → World → Prop), body u N s w → W P ty LW c (loopPost sp (exits.map fun x => (x.1, doorOf Φ (.exit x.1) x.2)) (doorOf Φ .ret ret) (fun v w => N (pu v) (ps v) w)) (mkT j 0 sp (pk u s)) w)
    {fr : List SV} {w : World} (hs : shapeT sp fr = true) (h : LOOP (pu (extT sp fr)) (body (pu (extT sp fr))) (ps (extT sp fr)) w) : (Code.loop c).wp P (up Φ) (act fr) w := by
  obtain ⟨I, μ, h0, hI⟩ := h
  generalize hu : pu (extT sp fr) = u at *
  generalize hss : ps (extT sp fr) = s at *
  let get : Act → S := fun a => ps (extT sp (a.tmps.toList.map SV.val))
  have getmk : ∀ fr, get (act fr) = ps (extT sp fr) := by
    have : ∀ (sp : List Slot) (fr : List SV), extT sp ((fr.map SV.den).map SV.val) = extT sp fr := by
      intro sp
      induction sp with
      | nil => intro fr; rfl
      | cons x r ih =>
        intro fr
        cases x with
        | junk =>
          cases fr with
          | nil => rfl
          | cons y fr => exact ih fr
        | k t =>
          cases fr with
          | nil => rfl
          | cons y fr => simp only [extT, List.map_cons, List.tail_cons, getS, SV.den]; rw [ih]
    intro fr
    show ps (extT sp ((act fr).tmps.toList.map SV.val)) = _
    rw [show (act fr).tmps.toList = fr.map SV.den from by simp [act], this]
  refine wp_loop (fun a w => ∃ fr, act fr = a ∧ shapeT sp fr = true ∧ pu (extT sp fr) = u ∧ I (ps (extT sp fr)) w) (fun a w => μ (get a) w) ⟨fr, rfl, hs, hu, by rw [hss]; exact h0⟩ ?_
  rintro a w ⟨fr, rfl, hs, hu, hi⟩
  obtain ⟨j, hj⟩ := shape_mk hs
  have hb := hround j u (ps (extT sp fr)) w _ (hI _ _ hi)
  rw [← hu, hpk] at hb
  have := W_ok hm hL c _ _ _ hb
  rw [hj]
  refine wp_mono this ?_
  rintro e a' w' ⟨fr', rfl, h'⟩
  cases e with
  | normal =>
    simp only [loopPost, doorW] at h'
    cases hs' : shapeT sp fr' with
    | false => rw [hs'] at h'; exact h'.elim
    | true =>
      rw [hs'] at h'
      obtain ⟨e1, e2, e3⟩ := h'
      refine ⟨⟨fr', rfl, hs', e1.trans hu, e2⟩, ?_⟩
      show μ (get (act fr')) w' < μ (get (act _)) w
      rw [← hj, getmk, getmk]
      exact e3
  | exit k => exact doorsOf_ok h'
  | ret => exact doorOf_ok h'
  | goto l => exact h'.elim
  | panic ch => exact h'.elim
  | outgrown => exact h'.elim

/-! ### Functions -/
def typed1 : (t : TK) → (t.T → Prop) → Value → Prop
  | .int k, K, .int k' n => bif sameK k k' then K n else False
  | .bool, K, .bool b => K b
  | .str, K, .string s => K s
  | .any, K, v => K v
  | _, _, _ => False
theorem typed1_ok {t : TK} {K : t.T → Prop} {v : Value} (h : typed1 t K v) : ∃ x, v = t.val x ∧ K x := by
  cases t with
  | int k =>
    cases v <;> first
      | exact h.elim
      | (rename_i k' n
         simp only [typed1] at h
         cases hb : sameK k k' with
         | true => rw [hb] at h; exact ⟨n, by rw [sameK_eq hb], h⟩
         | false => rw [hb] at h; exact h.elim)
  | bool => cases v <;> first | exact h.elim | exact ⟨_, rfl, h⟩
  | str => cases v <;> first | exact h.elim | exact ⟨_, rfl, h⟩
  | any => exact ⟨v, rfl, by cases v <;> exact h⟩
def typedR : (t : RT) → (t.T → World → Prop) → World → List Value → Prop
  | .one t, K, w, [v] => typed1 t (fun x => K x w) v
  | .two a b, K, w, [x, y] => typed1 a (fun x => typed1 b (fun y => K (x, y) w) y) x
  | .three a b c, K, w, [x, y, z] => typed1 a (fun x => typed1 b (fun y => typed1 c (fun z => K (x, y, z) w) z) y) x
  | .unit, K, w, [] => K () w
  | _, _, _, _ => False
def oneOr (vs : List Value) : Value := match vs with | [v] => v | vs => .tuple vs.toArray
theorem typedR_ok {t : RT} {K : t.T → World → Prop} {w : World} {vs : List Value} (h : typedR t K w vs) : ∃ x, oneOr vs = t.val x ∧ K x w := by
  unfold typedR at h
  split at h
  · obtain ⟨x, rfl, h1⟩ := typed1_ok h
    exact ⟨x, rfl, h1⟩
  · obtain ⟨x, rfl, h1⟩ := typed1_ok h
    obtain ⟨y, rfl, h2⟩ := typed1_ok h1
    exact ⟨(x, y), rfl, h2⟩
  · obtain ⟨x, rfl, h1⟩ := typed1_ok h
    obtain ⟨y, rfl, h2⟩ := typed1_ok h1
    obtain ⟨z, rfl, h3⟩ := typed1_ok h2
    exact ⟨(x, y, z), rfl, h3⟩
  · exact ⟨(), rfl, h⟩
  · exact h.elim
def resW (P : Program) (fr : List SV) (w : World) (t : RT) (K : t.T → World → Prop) : List ResultVar → List Value → Prop
  | [], acc => typedR t K w acc
  | .tmp s :: r, acc => resW P fr w t K r (acc ++ [(getS fr s).den])
  | .cell a e :: r, acc => QSub P (Instr.loadAt e (getS fr a).den) w .any fun v => resW P fr w t K r (acc ++ [v])
theorem resW_ok {P : Program} {fr : List SV} {w : World} {t : RT} {K : t.T → World → Prop} {f : ResultVar → Sem Value}
    (hf1 : ∀ s, f (.tmp s) = pure (getS fr s).den) (hf2 : ∀ a e v, (Instr.loadAt e (getS fr a).den).run P w = .ok v w → (f (.cell a e)).run P w = .ok v w) :
    ∀ (rs : List ResultVar) (acc : List Value), resW P fr w t K rs acc → ∃ vs, (rs.mapM f).run P w = .ok vs w ∧ typedR t K w (acc ++ vs)
  | [], acc, h => ⟨[], by simp, by rw [List.append_nil]; exact h⟩
  | .tmp s :: r, acc, h => by
    obtain ⟨vs, h1, h2⟩ := resW_ok hf1 hf2 r _ h
    refine ⟨(getS fr s).den :: vs, ?_, by simpa using h2⟩
    simp [List.mapM_cons, hf1, h1]
  | .cell a e :: r, acc, h => by
    obtain ⟨v, hv, h⟩ := h
    obtain ⟨vs, h1, h2⟩ := resW_ok hf1 hf2 r _ h
    refine ⟨v :: vs, ?_, by simpa using h2⟩
    simp [List.mapM_cons, hf2 a e v (hv w (Below.refl _ _)), h1]
def fnPost (P : Program) (rs : List ResultVar) (t : RT) (K : t.T → World → Prop) : Post
  | .normal, fr, w => resW P fr w t K rs []
  | .ret, fr, w => resW P fr w t K rs []
  | _, _, _ => False
def frame0 (args : List Value) (n : Nat) : List SV := args.map SV.val ++ List.replicate (n - args.length) (.val undef)
theorem results_ok {P : Program} {fn : Func} {fr : List SV} {w : World} {t : RT} {K : t.T → World → Prop} (h : resW P fr w t K fn.results.toList []) :
    ∃ x, (results fn (act fr).tmps).run P w = .ok (t.val x) w ∧ K x w := by
  have hg : ∀ s, (act fr).tmps.getD s undef = (getS fr s).den := fun s => (getS_den fr s).symm
  unfold results
  generalize hF : (fun | .tmp t => pure ((act fr).tmps.getD t undef) | .cell a t => do loadVar t (← asAddr ((act fr).tmps.getD a undef)) : ResultVar → Sem Value) = F
  obtain ⟨vs, h1, h2⟩ := resW_ok (f := F) (fun s => by rw [← hF]; simp only [hg]) (fun a e v hv => by
      rw [← hF]
      simp only [hg]
      generalize (getS fr a).den = p at *
      unfold Instr.loadAt at hv
      cases p <;> first
        | (simp [Instr.sureAddr, stuck] at hv; done)
        | (rename_i o
           cases o with
           | none => simp [Instr.sureAddr, stuck] at hv
           | some o => exact hv)) fn.results.toList [] h
  obtain ⟨x, hx, hk⟩ := typedR_ok h2
  refine ⟨x, ?_, hk⟩
  rw [Array.mapM_eq_mapM_toList]
  simp only [Sem.run_bind, Sem.run_map]
  rw [h1]
  simp only [List.nil_append] at hx
  rw [← hx]
  simp only [Result.andThen_ok, Sem.run_pure]
  unfold oneOr
  match vs with
  | [] => rfl
  | [v] => rfl
  | _ :: _ :: _ => simp
theorem fn_ok {P : Program} {ty : List RT} {LW : Code → Post → List SV → World → Prop} (hm : P.follows .mixedOrders = true) (hL : Sound P LW) {f : FuncId} {fn : Func} {c : Code}
    (hf : P.funcs[f]? = some fn) (hname : (fn.name == "runtime.NumGoroutine") = false) (hb : fn.body = some c) {n : Nat} (hn : fn.ntmps = n) (args : List Value) {t : RT} {K : t.T → World → Prop} {w : World}
    (h : W P ty LW c (fnPost P fn.results.toList t K) (frame0 args n) w) : Fc P f args.toArray w t K := by
  refine ⟨fun args w => ?_, ?_⟩
  · have h1 : fn.name ≠ "runtime.NumGoroutine" := by simpa using hname
    simp [callFunc, hf, h1, hb]
  · refine calls_of_wp hf hb ?_
    have := W_ok hm hL c _ _ _ h
    have he : act (frame0 args n) = { tmps := args.toArray ++ Array.replicate (fn.ntmps - args.toArray.size) undef, defers := [] } := by
      unfold act frame0
      simp only [List.map_append, List.map_map, List.map_replicate, List.size_toArray, hn]
      congr 1
      rw [show (SV.den ∘ SV.val) = (id : Value → Value) from rfl]
      apply Array.ext'
      simp [SV.den]
    rw [he] at this
    refine wp_mono this ?_
    rintro e a w' ⟨fr, rfl, h'⟩
    cases e with
    | normal => obtain ⟨x, hx, hk⟩ := results_ok h'; exact ⟨rfl, _, hx, x, rfl, hk⟩
    | ret => obtain ⟨x, hx, hk⟩ := results_ok h'; exact ⟨rfl, _, hx, x, rfl, hk⟩
    | exit k => exact h'.elim
    | goto l => exact h'.elim
    | panic ch => exact h'.elim
    | outgrown => exact h'.elim
theorem sound_none (P : Program) : Sound P (fun _ _ _ _ => False) := fun _ _ _ _ h => h.elim
theorem Fc.mono {P : Program} {f : FuncId} {args : Array Value} {w : World} {t : RT} {K K' : t.T → World → Prop} (h : Fc P f args w t K) (hk : ∀ x w', K x w' → K' x w') : Fc P f args w t K' :=
  ⟨h.ent, h.run.mono fun _ _ ⟨x, he, hx⟩ => ⟨x, he, hk _ _ hx⟩⟩

/-! ### What a function's printed reading is held against -/
def bodyOf (fn : Func) : Code := fn.body.getD .skip
def firstId : Code → Nat
  | .region id _ _ => id
  | .seq x _ => firstId x
  | .block _ c => firstId c
  | .loop c => 1000 + firstId c
  | _ => 0
def findLoop (id : Nat) : Code → Option Code
  | .loop c => bif firstId c == id then some c else findLoop id c
  | .seq x y => match findLoop id x with
    | some c => some c
    | none => findLoop id y
  | .cond _ x y => match findLoop id x with
    | some c => some c
    | none => findLoop id y
  | .block _ c => findLoop id c
  | _ => none
def loopAt (fn : Func) (id : Nat) : Code := (findLoop id (bodyOf fn)).getD .skip
def orc (id : Nat) (c0 : Code) (sp : List Slot) (X : Post → List SV → World → Prop) (O : Code → Post → List SV → World → Prop) : Code → Post → List SV → World → Prop :=
  fun c Φ fr w => bif firstId c == id then At c c0 (bif shapeT sp fr then X Φ fr w else False) else O c Φ fr w
theorem orc_ok {P : Program} {O : Code → Post → List SV → World → Prop} (hO : Sound P O) {id : Nat} {c0 : Code} {sp : List Slot} {X : Post → List SV → World → Prop}
    (hX : ∀ Φ fr w, shapeT sp fr = true → X Φ fr w → (Code.loop c0).wp P (up Φ) (act fr) w) : Sound P (orc id c0 sp X O) := by
  intro c Φ fr w h
  unfold orc at h
  cases hb : (firstId c == id) with
  | true =>
    rw [hb] at h
    obtain ⟨rfl, h⟩ := h
    cases hs : shapeT sp fr with
    | true => rw [hs] at h; exact hX Φ fr w hs h
    | false => rw [hs] at h; exact h.elim
  | false => rw [hb] at h; exact hO c Φ fr w h
end Go.Proofs.Ytlbhpbaeokgmaaa.Eng

/- The rules of memory for the readings: what is read, written and made, said of whole blocks. No condition. -/
namespace Go.Proofs.Ytlbhpbaeokgmaaa.Mem
open Go Go.RowKit Eng

abbrev ptr (b off : Nat) : Value := .pointer (some ⟨b, off, none⟩)

/-! ### Worlds that keep blocks -/
/-- w' is w but for the blocks in S, and new ones. -/
structure Mod (S : List Nat) (w w' : World) : Prop where
  os : w'.os = w.os
  tape : w'.tape = w.tape
  output : w'.output = w.output
  size : w.heap.size ≤ w'.heap.size
  block : ∀ k, k < w.heap.size → k ∉ S → w'.heap[k]? = w.heap[k]?
theorem Mod.refl (S : List Nat) (w : World) : Mod S w w := ⟨rfl, rfl, rfl, Nat.le_refl _, fun _ _ _ => rfl⟩
theorem Mod.mono {S S' : List Nat} {w w' : World} (h : Mod S w w') (hs : ∀ k ∈ S, k ∈ S' ∨ w.heap.size ≤ k) : Mod S' w w' :=
  ⟨h.os, h.tape, h.output, h.size, fun k hk hn => h.block k hk fun hm => by rcases hs k hm with h' | h' <;> first | exact hn h' | omega⟩
theorem Mod.trans {S : List Nat} {a b c : World} (h : Mod S a b) (k : Mod S b c) : Mod S a c :=
  ⟨k.os.trans h.os, k.tape.trans h.tape, k.output.trans h.output, Nat.le_trans h.size k.size, fun i hi hn => (k.block i (Nat.lt_of_lt_of_le hi h.size) hn).trans (h.block i hi hn)⟩
/-- The second step may turn what S names, and what the first has made. -/
theorem Mod.andThen {S S' : List Nat} {a b c : World} (h : Mod S a b) (k : Mod S' b c) (hs : ∀ i ∈ S', i ∈ S ∨ a.heap.size ≤ i) : Mod S a c :=
  ⟨k.os.trans h.os, k.tape.trans h.tape, k.output.trans h.output, Nat.le_trans h.size k.size, fun i hi hn =>
    (k.block i (Nat.lt_of_lt_of_le hi h.size) (fun hm => by rcases hs i hm with h' | h' <;> first | exact hn h' | omega)).trans (h.block i hi hn)⟩
theorem Mod.below {S : List Nat} {w w' : World} (h : Mod S w w') {B : Nat} (hB : B ≤ w.heap.size) (hs : ∀ k ∈ S, B ≤ k) : Below B w w' :=
  ⟨h.os, h.tape, h.output, h.size, fun k hk => h.block k (by omega) fun hm => by have := hs k hm; omega⟩
theorem Mod.nil {w w' : World} (h : Mod [] w w') : Below w.heap.size w w' := h.below (Nat.le_refl _) (fun _ hm => by cases hm)
theorem mod_of_below {w w' : World} (h : Below w.heap.size w w') (S : List Nat) : Mod S w w' := ⟨h.os, h.tape, h.output, h.size, fun k hk _ => h.block k hk⟩
theorem Mod.at_ {S : List Nat} {w w' : World} (h : Mod S w w') {b : Nat} {o : Obj} (hb : w.heap[b]? = some o) (hn : b ∉ S) : w'.heap[b]? = some o := by
  rw [h.block b (Array.getElem?_eq_some_iff.1 hb).1 hn]; exact hb
theorem below_at {B : Nat} {w w' : World} (h : Below B w w') {b : Nat} {o : Obj} (hb : w.heap[b]? = some o) (hn : b < B) : w'.heap[b]? = some o := by
  rw [h.block b hn]; exact hb
theorem at_lt {w : World} {b : Nat} {o : Obj} (h : w.heap[b]? = some o) : b < w.heap.size := (Array.getElem?_eq_some_iff.1 h).1
/-- A new block. -/
structure New (w w' : World) (b : Nat) (o : Obj) : Prop where
  here : b = w.heap.size
  size : w'.heap.size = w.heap.size + 1
  at_ : w'.heap[b]? = some o
  mod : Mod [] w w'
theorem new_alloc (w : World) (o : Obj) : New w (w.alloc o) w.heap.size o :=
  ⟨rfl, by show (w.heap.push o).size = _; simp, heap_alloc_new w o, ⟨rfl, rfl, rfl, by show _ ≤ (w.heap.push o).size; simp, fun k hk _ => heap_alloc_old w o k hk⟩⟩
theorem New.below {w w' : World} {b : Nat} {o : Obj} (h : New w w' b o) : Below w.heap.size w w' := h.mod.nil

/-! ### What may be read -/
/-- From the pointer p on lie these values. -/
structure Row (w : World) (p : Value) (vs : List Value) : Prop where
  ex : ∃ b off cs e fz, p = ptr b off ∧ w.heap[b]? = some (.cells cs e fz) ∧ ∀ i, i < vs.length → cs[off + i]? = vs[i]?
abbrev Cell (w : World) (p v : Value) : Prop := Row w p [v]
theorem Row.keep {w w' : World} {p : Value} {vs : List Value} (h : Row w p vs) (hb : Below w.heap.size w w') : Row w' p vs := by
  obtain ⟨b, off, cs, e, fz, hp, ha, hr⟩ := h
  exact ⟨b, off, cs, e, fz, hp, below_at hb ha (at_lt ha), hr⟩
theorem Row.mod {w w' : World} {b off : Nat} {vs : List Value} {S : List Nat} (h : Row w (ptr b off) vs) (hb : Mod S w w') (hn : b ∉ S) : Row w' (ptr b off) vs := by
  obtain ⟨b', off', cs, e, fz, hp, ha, hr⟩ := h
  injection hp with hp; injection hp with hp; injection hp with h1 h2 _
  subst h1; subst h2
  exact ⟨_, _, cs, e, fz, rfl, hb.at_ ha hn, hr⟩
theorem row_of {w : World} {b : Nat} {cs : Array Value} {e : Nat} {fz : Nat × Nat} (ha : w.heap[b]? = some (.cells cs e fz)) (off : Nat) (vs : List Value) (h : ∀ i, i < vs.length → cs[off + i]? = vs[i]?) : Row w (ptr b off) vs :=
  ⟨b, off, cs, e, fz, rfl, ha, h⟩
theorem row_all {w : World} {b : Nat} {cs : List Value} {e : Nat} {fz : Nat × Nat} (ha : w.heap[b]? = some (.cells cs.toArray e fz)) : Row w (ptr b 0) cs :=
  row_of ha 0 cs fun i _ => by simp
theorem Row.nonnil {w : World} {p : Value} {vs : List Value} (h : Row w p vs) : NilOk p := by
  obtain ⟨b, off, _, _, _, rfl, _⟩ := h; exact .inl ⟨_, rfl⟩
/-- A pointer moved on by k cells. -/
def padd (p : Value) (k : Nat) : Value :=
  match p with
  | .pointer (some a) => .pointer (some (a.add k))
  | v => v
theorem add_none (b off k : Nat) : (⟨b, off, none⟩ : Addr).add k = ⟨b, off + k, none⟩ := by unfold Addr.add; split <;> simp_all
theorem Row.sub {w : World} {p : Value} {vs : List Value} (h : Row w p vs) (k : Nat) {us : List Value} (hk : ∀ i, i < us.length → vs[k + i]? = us[i]?) : Row w (padd p k) us := by
  obtain ⟨b, off, cs, e, fz, rfl, ha, hr⟩ := h
  refine ⟨b, off + k, cs, e, fz, by simp [padd, add_none], ha, fun i hi => ?_⟩
  have h1 := hk i hi
  have h2 : k + i < vs.length := by
    rw [List.getElem?_eq_getElem hi] at h1
    exact (List.getElem?_eq_some_iff.1 h1).1
  rw [Nat.add_assoc, hr _ h2, h1]
theorem Row.get {w : World} {p : Value} {vs : List Value} (h : Row w p vs) (k : Nat) {v : Value} (hk : vs[k]? = some v) : Cell w (padd p k) v :=
  h.sub k fun i hi => by simp at hi; subst hi; simpa using hk

/-! ### Kinds of types, as the program's tables have them -/
def aggD : TypeDesc → Bool
  | .struct _ | .array _ _ => true
  | _ => false
/-- A type of one cell. -/
structure Ty1 (P : Program) (t : TypeId) (z : Value) (bytes : Nat) : Prop where
  und : ∃ d, P.underlying t = some d ∧ aggD d = false
  info : (P.info? t).map (fun i => (i.zero, i.size, i.bytes)) = some (some z, 1, bytes)
  one : z.oneCell' = true
/-- A type of several cells. -/
structure TyA (P : Program) (t : TypeId) (z : List Value) : Prop where
  und : ∃ d, P.underlying t = some d ∧ aggD d = true
  info : (P.info? t).map (fun i => (i.zero, i.size)) = some (some (.agg z.toArray), z.length)
/-- A slice type and its elements. -/
structure TyS (P : Program) (t e : TypeId) (size bytes : Nat) (z : Value) : Prop where
  und : P.underlying t = some (.slice e)
  info : (P.info? e).map (fun i => (i.zero, i.size, i.bytes)) = some (some z, size, bytes)
  zs : z.cells.size = size
  pos : 0 < size
theorem isAgg_run {P : Program} {t : TypeId} {d : TypeDesc} (h : P.underlying t = some d) (w : World) : (isAgg t).run P w = .ok (aggD d) w := by
  unfold isAgg
  simp only [Sem.run_bind, run_underlying h, Result.andThen_ok]
  cases d <;> rfl
theorem loadVar_one {P : Program} {t : TypeId} {z : Value} {n : Nat} (ht : Ty1 P t z n) (a : Addr) (w : World) : (loadVar t a).run P w = (load a).run P w := by
  obtain ⟨d, hd, hf⟩ := ht.und
  unfold loadVar
  rw [Sem.run_bind, isAgg_run hd, hf]
  rfl
theorem sizeOf_run {P : Program} {t : TypeId} {n : Nat} (h : (P.info? t).map (·.size) = some n) (w : World) : (sizeOf t).run P w = .ok n w := by
  obtain ⟨i, hi, hs⟩ := Option.map_eq_some_iff.1 h
  simp [sizeOf, typeInfo, hi, hs]
theorem Ty1.size {P : Program} {t : TypeId} {z : Value} {n : Nat} (ht : Ty1 P t z n) : (P.info? t).map (·.size) = some 1 := by
  obtain ⟨i, hi, hs⟩ := Option.map_eq_some_iff.1 ht.info
  injection hs with _ hs; injection hs with hs _
  rw [hi]; exact congrArg some hs
theorem TyA.size {P : Program} {t : TypeId} {z : List Value} (ht : TyA P t z) : (P.info? t).map (·.size) = some z.length := by
  obtain ⟨i, hi, hs⟩ := Option.map_eq_some_iff.1 ht.info
  injection hs with _ hs
  rw [hi]; exact congrArg some hs

/-! ### Loads -/
theorem ld_run {P : Program} {w : World} {p v : Value} {t : TypeId} {z : Value} {n : Nat} (ht : Ty1 P t z n) (h : Cell w p v) : (Instr.loadAt t p).run P w = .ok v w := by
  obtain ⟨b, off, cs, e, fz, rfl, ha, hr⟩ := h
  have h0 := hr 0 (by simp)
  simp only [Nat.add_zero, List.getElem?_cons_zero] at h0
  unfold Instr.loadAt
  simp only [Instr.sureAddr, Sem.run_bind, Sem.run_pure, Result.andThen_ok]
  rw [loadVar_one ht, run_load]
  simp [World.cell?, ha, h0]
/-- A cell is read. -/
theorem ld {P : Program} {w : World} {p : Value} {t : TypeId} {z : Value} {n : Nat} {k : TK} {x : k.T} {K : k.T → Prop} (ht : Ty1 P t z n) (h : Cell w p (k.val x)) (hK : K x) : QSub P (Instr.loadAt t p) w k K :=
  ⟨x, fun _ hb => ld_run ht (h.keep hb), hK⟩
theorem ldA_run {P : Program} {w : World} {p : Value} {vs : List Value} {t : TypeId} {z : List Value} (ht : TyA P t z) (hl : vs.length = z.length) (h : Row w p vs) : (Instr.loadAt t p).run P w = .ok (.agg vs.toArray) w := by
  obtain ⟨b, off, cs, e, fz, rfl, ha, hr⟩ := h
  obtain ⟨d, hd, hf⟩ := ht.und
  unfold Instr.loadAt
  simp only [Instr.sureAddr, Sem.run_bind, Sem.run_pure, Result.andThen_ok, loadVar, isAgg_run hd, hf, if_true, sizeOf_run ht.size]
  rw [← hl, run_loadCells_list w ⟨b, off, none⟩ vs (fun j v hv => by
    rw [add_none]
    have hj : j < vs.length := (List.getElem?_eq_some_iff.1 hv).1
    simp [World.cell?, ha, hr j hj, hv])]
  rfl
/-- A struct or an array is read whole. -/
theorem ldA {P : Program} {w : World} {p : Value} {vs : List Value} {t : TypeId} {z : List Value} {K : Value → Prop} (ht : TyA P t z) (hl : vs.length = z.length) (h : Row w p vs) (hK : K (.agg vs.toArray)) : QSub P (Instr.loadAt t p) w .any K :=
  ⟨.agg vs.toArray, fun _ hb => ldA_run ht hl (h.keep hb), hK⟩

/-! ### Addresses -/
/-- A field of a struct type: how far in it lies. -/
structure TyF (P : Program) (s : TypeId) (f off : Nat) : Prop where
  ex : ∃ fs fd, P.underlying s = some (.struct fs) ∧ fs[f]? = some fd ∧ fd.offset = off ∧ ∃ n, (P.info? fd.type).map (·.size) = some (n + 1)
theorem fld {P : Program} {s : TypeId} {f off : Nat} {p : Value} {K : Value → Prop} (ht : TyF P s f off) (hp : NilOk p) (hf : ∃ a, p = .pointer (some a)) (hK : K (padd p off)) : QAll P (Instr.fieldAt s p f) .any K := by
  obtain ⟨a, rfl⟩ := hf
  obtain ⟨fs, fd, hu, hg, rfl, n, hn⟩ := ht.ex
  refine ⟨padd (.pointer (some a)) fd.offset, fun w => ?_, hK⟩
  unfold Instr.fieldAt
  simp [run_underlying hu, hg, Instr.sureAddr, fieldPlace, sizeOf_run hn, padd]
theorem Row.isPtr {w : World} {p : Value} {vs : List Value} (h : Row w p vs) : ∃ a, p = .pointer (some a) := by
  obtain ⟨b, off, _, _, _, rfl, _⟩ := h; exact ⟨_, rfl⟩
/-- An array type and its elements. -/
structure TyR (P : Program) (t e : TypeId) (len size : Nat) : Prop where
  und : P.underlying t = some (.array len e)
  size : (P.info? e).map (·.size) = some size
  long : 2 ≤ len
theorem ixR {P : Program} {t e : TypeId} {len size : Nat} {p : Value} {k : IntKind} {i : Int} {K : Value → Prop} (ht : TyR P t e len size) (hp : ∃ a, p = .pointer (some a)) (h0 : 0 ≤ i) (h1 : i < len) (hK : K (padd p (i.toNat * size))) :
    QAll P (Instr.indexAt t p (.int k i)) .any K := by
  obtain ⟨a, rfl⟩ := hp
  refine ⟨padd (.pointer (some a)) (i.toNat * size), fun w => ?_, hK⟩
  unfold Instr.indexAt
  simp [asIntOf, run_underlying ht.und, Instr.sureAddr, sizeOf_run ht.size, padd, h0, h1]

/-! ### Slices -/
/-- A slice that reads as these values, an element size cells. -/
structure Sl (w : World) (v : Value) (size : Nat) (vs : List Value) : Prop where
  ex : ∃ a n c, v = .slice a n c ∧ n ≤ c ∧ vs.length = n * size ∧ (vs ≠ [] → Row w (.pointer a) vs)
theorem Sl.keep {w w' : World} {v : Value} {size : Nat} {vs : List Value} (h : Sl w v size vs) (hb : Below w.heap.size w w') : Sl w' v size vs := by
  obtain ⟨a, n, c, hv, hc, hn, hr⟩ := h
  exact ⟨a, n, c, hv, hc, hn, fun hne => (hr hne).keep hb⟩
theorem Sl.nil (w : World) (size : Nat) : Sl w (.slice none 0 0) size [] := ⟨none, 0, 0, rfl, Nat.le_refl _, by simp, fun h => absurd rfl h⟩
theorem ixS {P : Program} {t e : TypeId} {size bytes : Nat} {z : Value} {w : World} {v : Value} {vs : List Value} {k : IntKind} {i : Int} {K : Value → Prop} (ht : TyS P t e size bytes z) (h : Sl w v size vs) (h0 : 0 ≤ i) (h1 : i.toNat * size < vs.length)
    (hK : ∀ p, (∀ us : List Value, (∀ j, j < us.length → vs[i.toNat * size + j]? = us[j]?) → Row w p us) → K p) : QAll P (Instr.indexAt t v (.int k i)) .any K := by
  obtain ⟨a, n, c, rfl, hc, hn, hr⟩ := h
  have hr := hr (by intro he; rw [he] at h1; simp at h1)
  obtain ⟨b, off, cs, e', fz, hp, ha, hg⟩ := id hr
  injection hp with hp
  subst hp
  have hin : i < n := by
    rw [hn] at h1
    have := Nat.lt_of_mul_lt_mul_right h1
    omega
  obtain ⟨d, hi, hd⟩ := Option.map_eq_some_iff.1 ht.info
  have hs : (P.info? e).map (·.size) = some size := by rw [hi]; injection hd with _ hd; injection hd with hd _; exact congrArg some hd
  refine ⟨padd (ptr b off) (i.toNat * size), fun w => ?_, hK _ fun us hus => hr.sub _ hus⟩
  unfold Instr.indexAt
  simp [asIntOf, run_underlying ht.und, sizeOf_run hs, padd, h0, hin]
theorem len_run {P : Program} {t e : TypeId} {size bytes : Nat} {z : Value} {w : World} {v : Value} {vs : List Value} {ty : TypeId} (ht : TyS P t e size bytes z) (h : Sl w v size vs) (w' : World) :
    (Builtin.len_ #[t] ty #[v]).run P w' = .ok (.int .i64 ((vs.length / size : Nat) : Int)) w' := by
  obtain ⟨a, n, c, rfl, hc, hn, hr⟩ := h
  unfold Builtin.len_
  simp [run_underlying ht.und, goInt, hn, Nat.mul_div_cancel n ht.pos]
theorem len {P : Program} {t e : TypeId} {size bytes : Nat} {z : Value} {w : World} {v : Value} {vs : List Value} {ty : TypeId} {K : Int → Prop} (ht : TyS P t e size bytes z) (h : Sl w v size vs) (hK : K ((vs.length / size : Nat) : Int)) :
    QAll P (Builtin.len_ #[t] ty #[v]) (.int .i64) K := ⟨_, fun w' => len_run ht h w', hK⟩

/-! ### Own blocks: made by the call, and written -/
abbrev Blk (w : World) (b : Nat) (l : List Value) (e : Nat) : Prop := w.heap[b]? = some (.cells l.toArray e (0, 0))
theorem blk_row {w : World} {b e : Nat} {l : List Value} (h : Blk w b l e) : Row w (ptr b 0) l := row_all h
theorem mod_setRow {w : World} {b e : Nat} {l l' : List Value} (h : Blk w b l e) : Mod [b] w (w.setRow b l'.toArray) ∧ Blk (w.setRow b l'.toArray) b l' e :=
  ⟨⟨rfl, rfl, rfl, by simp, fun k _ hn => setRow_other w b k _ (by simpa using hn)⟩, setRow_heap w b _ _ e _ h⟩
theorem size_setRow' (w : World) (b : Nat) (l : Array Value) : (w.setRow b l).heap.size = w.heap.size := size_setRow w b l
/-- A cell of an own block is written. -/
theorem st {P : Program} {w : World} {b off e : Nat} {l : List Value} {t : TypeId} {z v : Value} {n : Nat} {K : World → Prop} (ht : Ty1 P t z n) (ha : Blk w b l e) (ho : off < l.length) (hv : v.oneCell' = true)
    (hK : ∀ w', Mod [b] w w' → w'.heap.size = w.heap.size → Blk w' b (l.set off v) e → K w') : PrU P (Instr.storeAt t (ptr b off) v) w K := by
  obtain ⟨m, hb⟩ := mod_setRow (l' := l.set off v) ha
  refine ⟨w.setRow b (l.set off v).toArray, ?_, hK _ m (size_setRow' _ _ _) hb⟩
  have hc : v.cells = #[v] := by cases v <;> first | rfl | cases hv
  unfold Instr.storeAt
  simp only [Instr.sureAddr, Sem.run_bind, Sem.run_pure, Result.andThen_ok, storeVar, sizeOf_run ht.size, hc, List.size_toArray, List.length_singleton, ne_eq, not_true, if_false, Sem.run_ite]
  have := run_storeCells_at (P := P) b off e [v] 0 l.toArray w ha (by simp; omega) (by simp [hv])
  simp only [Nat.add_zero, List.length_singleton] at this
  have hl : l.take off ++ [v] ++ l.drop (off + 1) = l.set off v := by
    rw [List.set_eq_take_append_cons_drop, if_pos ho]; simp
  rw [hl] at this
  exact this
/-- A struct or an array is written whole. -/
theorem stA {P : Program} {w : World} {b e : Nat} {l vs : List Value} {t : TypeId} {z : List Value} {K : World → Prop} (ht : TyA P t z) (off : Nat) (ha : Blk w b l e) (hl : vs.length = z.length) (ho : off + vs.length ≤ l.length) (hv : ∀ v ∈ vs, v.oneCell' = true)
    (hK : ∀ w', Mod [b] w w' → w'.heap.size = w.heap.size → Blk w' b (l.take off ++ vs ++ l.drop (off + vs.length)) e → K w') : PrU P (Instr.storeAt t (ptr b off) (.agg vs.toArray)) w K := by
  obtain ⟨m, hb⟩ := mod_setRow (l' := l.take off ++ vs ++ l.drop (off + vs.length)) ha
  refine ⟨w.setRow b (l.take off ++ vs ++ l.drop (off + vs.length)).toArray, ?_, hK _ m (size_setRow' _ _ _) hb⟩
  unfold Instr.storeAt
  simp only [Instr.sureAddr, Sem.run_bind, Sem.run_pure, Result.andThen_ok, storeVar, sizeOf_run ht.size, Value.cells, List.size_toArray, ← hl, ne_eq, not_true, if_false, Sem.run_ite]
  have := run_storeCells_at (P := P) b off e vs 0 l.toArray w ha (by simpa using ho) hv
  simp only [Nat.add_zero] at this
  exact this
theorem stA0 {P : Program} {w : World} {b e : Nat} {l vs : List Value} {t : TypeId} {z : List Value} {K : World → Prop} (ht : TyA P t z) (ha : Blk w b l e) (hl : vs.length = z.length) (ho : vs.length = l.length) (hv : ∀ v ∈ vs, v.oneCell' = true)
    (hK : ∀ w', Mod [b] w w' → w'.heap.size = w.heap.size → Blk w' b vs e → K w') : PrU P (Instr.storeAt t (ptr b 0) (.agg vs.toArray)) w K :=
  stA ht 0 ha hl (by omega) hv fun w' m hs hb => hK w' m hs (by simpa [ho, List.drop_length] using hb)

/-! ### New blocks -/
theorem newVar_run (P : Program) (t : TypeId) (v : Value) (w : World) : (newVar t v).run P w = .ok ⟨w.heap.size, 0, none⟩ (w.alloc (.cells v.cells t)) := rfl
theorem box {P : Program} {w : World} {e : TypeId} {v : Value} {K : Value → World → Prop} (l : List Value) (hv : v.cells = l.toArray) (hK : ∀ b w', New w w' b (.cells l.toArray e) → K (ptr b 0) w') : Pr P (Instr.box e v) w (.one .any) K := by
  refine ⟨ptr w.heap.size 0, w.alloc (.cells v.cells e), rfl, ?_⟩
  rw [hv]; exact hK _ _ (new_alloc w _)
theorem zero_run {P : Program} {t : TypeId} {z : Value} (h : (P.info? t).map (·.zero) = some (some z)) (w : World) : (zeroValue t).run P w = .ok z w := by
  obtain ⟨i, hi, hs⟩ := Option.map_eq_some_iff.1 h
  simp [zeroValue, typeInfo, hi, hs]
theorem alloc {P : Program} {w : World} {t : TypeId} {z : Value} {K : Value → World → Prop} (l : List Value) (h : (P.info? t).map (·.zero) = some (some z)) (hz : z.cells = l.toArray) (hK : ∀ b w', New w w' b (.cells l.toArray t) → K (ptr b 0) w') :
    Pr P (Instr.alloc t true (.tuple #[])) w (.one .any) K := by
  refine ⟨ptr w.heap.size 0, w.alloc (.cells z.cells t), ?_, by rw [hz]; exact hK _ _ (new_alloc w _)⟩
  unfold Instr.alloc
  simp only [Sem.run_bind, zero_run h, Result.andThen_ok]
  rfl
theorem Ty1.zero {P : Program} {t : TypeId} {z : Value} {n : Nat} (ht : Ty1 P t z n) : (P.info? t).map (·.zero) = some (some z) := by
  obtain ⟨i, hi, hs⟩ := Option.map_eq_some_iff.1 ht.info
  injection hs with hs _
  rw [hi]; exact congrArg some hs
theorem TyA.zero {P : Program} {t : TypeId} {z : List Value} (ht : TyA P t z) : (P.info? t).map (·.zero) = some (some (.agg z.toArray)) := by
  obtain ⟨i, hi, hs⟩ := Option.map_eq_some_iff.1 ht.info
  injection hs with hs _
  rw [hi]; exact congrArg some hs
theorem alloc1 {P : Program} {w : World} {t : TypeId} {z : Value} {n : Nat} {K : Value → World → Prop} (ht : Ty1 P t z n) (hK : ∀ b w', New w w' b (.cells [z].toArray t) → K (ptr b 0) w') : Pr P (Instr.alloc t true (.tuple #[])) w (.one .any) K :=
  alloc [z] ht.zero (by have := ht.one; cases z <;> first | rfl | cases this) hK
theorem allocA {P : Program} {w : World} {t : TypeId} {z : List Value} {K : Value → World → Prop} (ht : TyA P t z) (hK : ∀ b w', New w w' b (.cells z.toArray t) → K (ptr b 0) w') : Pr P (Instr.alloc t true (.tuple #[])) w (.one .any) K :=
  alloc z ht.zero rfl hK

/-! ### Slices of the call's own -/
/-- Block b holds the array of the slice v, whose n elements (size cells each) are these. -/
structure Own (w : World) (b e size : Nat) (v : Value) (n : Nat) (xs : List Value) : Prop where
  ex : ∃ cap l, v = .slice (some ⟨b, 0, none⟩) n cap ∧ Blk w b l e ∧ n ≤ cap ∧ cap ≤ maxLen ∧ l.length = cap * size ∧ l.take (n * size) = xs ∧ xs.length = n * size
theorem Own.len {w : World} {b e size n : Nat} {v : Value} {xs : List Value} (h : Own w b e size v n xs) : xs.length = n * size := by
  obtain ⟨_, _, _, _, _, _, _, _, h⟩ := h; exact h
theorem Own.row {w : World} {b e size n : Nat} {v : Value} {xs : List Value} (h : Own w b e size v n xs) : Row w (ptr b 0) xs := by
  obtain ⟨cap, l, rfl, hb, _, _, hl, rfl, hx⟩ := h
  refine row_of hb 0 _ fun i hi => ?_
  have : i < n * size := by rw [hx] at hi; exact hi
  simp [this]
theorem Own.sl {w : World} {b e size n : Nat} {v : Value} {xs : List Value} (h : Own w b e size v n xs) : Sl w v size xs := by
  obtain ⟨cap, l, rfl, hb, hc, hm, hl, ht, hx⟩ := id h
  exact ⟨_, _, _, rfl, hc, hx, fun _ => h.row⟩
theorem Own.lt {w : World} {b e size n : Nat} {v : Value} {xs : List Value} (h : Own w b e size v n xs) : b < w.heap.size := by
  obtain ⟨cap, l, rfl, hb, _⟩ := h; exact at_lt hb
theorem Own.mod {w w' : World} {b e size n : Nat} {v : Value} {xs : List Value} {S : List Nat} (h : Own w b e size v n xs) (m : Mod S w w') (hn : b ∉ S) : Own w' b e size v n xs := by
  obtain ⟨cap, l, hv, hb, r⟩ := h
  exact ⟨cap, l, hv, m.at_ hb hn, r⟩
theorem Own.keep {w w' : World} {b e size n : Nat} {v : Value} {xs : List Value} (h : Own w b e size v n xs) (m : Below w.heap.size w w') : Own w' b e size v n xs :=
  h.mod (mod_of_below m []) (by simp)
theorem own_new {w : World} {b e size n : Nat} {xs : List Value} (h : Blk w b xs e) (hx : xs.length = n * size) (hm : n ≤ maxLen) : Own w b e size (.slice (some ⟨b, 0, none⟩) n n) n xs :=
  ⟨n, xs, rfl, h, Nat.le_refl _, hm, hx, by rw [← hx, List.take_length], hx⟩
/-- An element of an own slice of one-cell elements is written. -/
theorem Own.set {w w' : World} {b e n : Nat} {v u : Value} {xs : List Value} {i : Nat} (h : Own w b e 1 v n xs) {l : List Value} (hl : Blk w b l e) (hb : Blk w' b (l.set i u) e) : Own w' b e 1 v n (xs.set i u) := by
  obtain ⟨cap, l', rfl, hb', hc, hm, hll, ht, hx⟩ := h
  have : l = l' := by
    have h1 := hl.symm.trans hb'
    injection h1 with h1
    injection h1 with h1
    exact congrArg Array.toList h1
  subst this
  refine ⟨cap, _, rfl, hb, hc, hm, by simpa using hll, ?_, by simpa using hx⟩
  rw [← ht, List.take_set]
theorem Own.blk {w : World} {b e size n : Nat} {v : Value} {xs : List Value} (h : Own w b e size v n xs) : ∃ cap l, v = .slice (some ⟨b, 0, none⟩) n cap ∧ Blk w b l e ∧ l.take (n * size) = xs ∧ n * size ≤ l.length := by
  obtain ⟨cap, l, hv, hb, hc, hm, hl, ht, hx⟩ := h
  exact ⟨cap, l, hv, hb, ht, by rw [hl]; exact Nat.mul_le_mul_right _ hc⟩
theorem TyS.parts {P : Program} {t e : TypeId} {size bytes : Nat} {z : Value} (ht : TyS P t e size bytes z) : ∃ i, P.info? e = some i ∧ i.zero = some z ∧ i.size = size ∧ i.bytes = bytes := by
  obtain ⟨i, hi, hd⟩ := Option.map_eq_some_iff.1 ht.info
  injection hd with h1 hd; injection hd with h2 h3
  exact ⟨i, hi, h1, h2, h3⟩
/-- What an append leaves. -/
def AppR (S : List Nat) (b0 : Option Nat) (w : World) (e size n : Nat) (xs : List Value) (v' : Value) (w' : World) : Prop :=
  ∃ b', Own w' b' e size v' n xs ∧ Mod S w w' ∧ (some b' = b0 ∨ w.heap.size ≤ b')
theorem app_run {P : Program} {w : World} {t e ty : TypeId} {size bytes : Nat} {z : Value} (ht : TyS P t e size bytes z) {b n m : Nat} {v y : Value} {xs ys : List Value} (h : Own w b e size v n xs) (hy : Sl w y size ys) (hm : ys.length = m * size) (h1 : ∀ u ∈ ys, u.oneCell' = true)
    (hbig : (n + m) * (bytes + 1) ≤ 140737488355328) : ∃ v' w', (Builtin.append_ #[t, t] ty #[v, y]).run P w = .ok v' w' ∧ AppR [b] (some b) w e size (n + m) (xs ++ ys) v' w' := by
  obtain ⟨i, hi, hz, rfl, rfl⟩ := ht.parts
  obtain ⟨cap, l, rfl, hb, hc, hcm, hl, htk, hx⟩ := id h
  obtain ⟨ao, m', c, rfl, hmc, hlen, hr⟩ := hy
  have hmm : m' = m := Nat.mul_right_cancel ht.pos (hlen.symm.trans hm)
  subst hmm
  have hle : n + m' ≤ 140737488355328 := Nat.le_trans (Nat.le_mul_of_pos_right _ (Nat.succ_pos _)) hbig
  have hby : (n + m') * i.bytes ≤ 140737488355328 := Nat.le_trans (Nat.mul_le_mul_left _ (Nat.le_succ _)) hbig
  have hmx : n + m' ≤ maxLen := by unfold maxLen; omega
  by_cases hnil : ys = []
  · subst hnil
    have hm0 : m' = 0 := by
      have : m' * i.size = 0 := by rw [← hm]; rfl
      rcases Nat.mul_eq_zero.1 this with h | h
      · exact h
      · exact absurd h (Nat.pos_iff_ne_zero.1 ht.pos)
    subst hm0
    refine ⟨_, w, ?_, b, by simpa using h, Mod.refl _ _, .inl rfl⟩
    have hcell : ∀ j u, ([] : List Value)[j]? = some u → w.cell? ((ao.getD ⟨0, 0, none⟩).add j) = some u := fun j u h => by simp at h
    cases ao with
    | none => simp [Builtin.append_, run_underlying ht.und, sizeOf, typeInfo, hi, Builtin.lenOf, Builtin.firstCells, hc, storeCells]
    | some a => simp [Builtin.append_, run_underlying ht.und, sizeOf, typeInfo, hi, Builtin.lenOf, Builtin.firstCells, hc, storeCells, loadCells, loadCellsFrom]
  · obtain ⟨b2, off2, cs2, e2, fz2, hp, ha2, hr2⟩ := hr hnil
    injection hp with hp
    subst hp
    have hcell : ∀ j u, ys[j]? = some u → w.cell? ((⟨b2, off2, none⟩ : Addr).add j) = some u := fun j u hu => by
      have hj : j < ys.length := (List.getElem?_eq_some_iff.1 hu).1
      rw [add_none]; simp [World.cell?, ha2, hr2 j hj, hu]
    have hlen2 : (xs ++ ys).length = (n + m') * i.size := by rw [List.length_append, hx, hm, Nat.add_mul]
    by_cases hroom : n + m' ≤ cap
    · have hfit : n * i.size + ys.length ≤ l.toArray.size := by simp only [List.size_toArray]; rw [hm, hl, ← Nat.add_mul]; exact Nat.mul_le_mul_right _ hroom
      have hrun := run_append_room (P := P) w t ty e i ht.und hi b n cap l.toArray hb ⟨b2, off2, none⟩ m' c ys hm hcell h1 hroom hfit
      obtain ⟨mm, hb'⟩ := mod_setRow (l' := l.take (n * i.size) ++ ys ++ l.drop (n * i.size + ys.length)) hb
      refine ⟨_, _, hrun, b, ⟨cap, _, rfl, hb', hroom, hcm, ?_, ?_, hlen2⟩, mm, .inl rfl⟩
      · simp only [List.length_append, List.length_take, List.length_drop]
        simp only [List.size_toArray] at hfit
        omega
      · rw [htk, ← hlen2]
        exact List.take_left
    · have holds : ∀ j u, xs[j]? = some u → w.cell? ((⟨b, 0, none⟩ : Addr).add j) = some u := fun j u hu => by
        have hj : j < xs.length := (List.getElem?_eq_some_iff.1 hu).1
        obtain ⟨b3, off3, cs3, e3, fz3, hp3, ha3, hr3⟩ := h.row
        injection hp3 with hp3; injection hp3 with hp3; injection hp3 with q1 q2 _
        subst q1; subst q2
        have h3 := hr3 j hj
        rw [Nat.zero_add] at h3
        rw [add_none]; simp [World.cell?, ha3, h3, hu]
      have hrun := run_append_grow (P := P) w t ty e i z ht.und hi hz ⟨b, 0, none⟩ n cap xs hx holds ⟨b2, off2, none⟩ m' c ys hm hcell (by omega) (by omega) (growslice_fits (by omega) hby)
      have hge := grownCap_ge w (n + m') cap e
      have hn := new_alloc w.drew (.cells (xs.toArray ++ ys.toArray ++ Builtin.zeroCells z.cells (grownCap w (n + m') cap e - (n + m'))) e)
      refine ⟨_, _, hrun, w.heap.size, ⟨_, xs ++ ys ++ (Builtin.zeroCells z.cells (grownCap w (n + m') cap e - (n + m'))).toList, rfl, ?_, hge, grownCap_le_maxLen w (n + m') cap e hmx, ?_, ?_, hlen2⟩, ?_, .inr (Nat.le_refl _)⟩
      · have := hn.at_
        unfold Blk
        rw [show (w.drew.heap.size) = w.heap.size from rfl] at this
        rw [this]
        congr 2
        apply Array.ext'; simp
      · have hG : n + m' + (grownCap w (n + m') cap e - (n + m')) = grownCap w (n + m') cap e := by omega
        have hZ : (Builtin.zeroCells z.cells (grownCap w (n + m') cap e - (n + m'))).toList.length = (grownCap w (n + m') cap e - (n + m')) * i.size := by rw [Array.length_toList, size_zeroCells, ht.zs]
        rw [List.length_append, List.length_append, hZ, hx, hm, ← Nat.add_mul, ← Nat.add_mul, hG]
      · rw [List.take_append_of_le_length (by rw [hlen2]; exact Nat.le_refl _), ← hlen2, List.take_length]
      · exact ⟨rfl, rfl, rfl, by show _ ≤ (w.heap.push _).size; simp, fun k hk _ => heap_alloc_old w.drew _ k hk⟩
theorem app_nil_run {P : Program} {w : World} {t e ty : TypeId} {size bytes : Nat} {z : Value} (ht : TyS P t e size bytes z) {m : Nat} {y : Value} {ys : List Value} (hy : Sl w y size ys) (hm : ys.length = m * size) (h0 : 0 < m)
    (hbig : m * (bytes + 1) ≤ 140737488355328) : ∃ v' w', (Builtin.append_ #[t, t] ty #[.slice none 0 0, y]).run P w = .ok v' w' ∧ AppR [] none w e size m ys v' w' := by
  obtain ⟨i, hi, hz, rfl, rfl⟩ := ht.parts
  obtain ⟨ao, m', c, rfl, hmc, hlen, hr⟩ := hy
  have hmm : m' = m := Nat.mul_right_cancel ht.pos (hlen.symm.trans hm)
  subst hmm
  have hle : m' ≤ 140737488355328 := Nat.le_trans (Nat.le_mul_of_pos_right _ (Nat.succ_pos _)) hbig
  have hby : m' * i.bytes ≤ 140737488355328 := Nat.le_trans (Nat.mul_le_mul_left _ (Nat.le_succ _)) hbig
  have hmx : m' ≤ maxLen := by unfold maxLen; omega
  have hne : ys ≠ [] := fun h => by
    rw [h] at hm
    have : 0 < m' * i.size := Nat.mul_pos h0 ht.pos
    simp at hm; omega
  obtain ⟨b2, off2, cs2, e2, fz2, hp, ha2, hr2⟩ := hr hne
  injection hp with hp
  subst hp
  have hcell : ∀ j u, ys[j]? = some u → w.cell? ((⟨b2, off2, none⟩ : Addr).add j) = some u := fun j u hu => by
    have hj : j < ys.length := (List.getElem?_eq_some_iff.1 hu).1
    rw [add_none]; simp [World.cell?, ha2, hr2 j hj, hu]
  have hrun := run_append_nil (P := P) w t ty e i z ht.und hi hz ⟨b2, off2, none⟩ m' c ys hm hcell h0 (by omega) (by omega)
  have hge := grownCap_ge w m' 0 e
  have hn := new_alloc w.drew (.cells (ys.toArray ++ Builtin.zeroCells z.cells (grownCap w m' 0 e - m')) e)
  refine ⟨_, _, hrun, w.heap.size, ⟨_, ys ++ (Builtin.zeroCells z.cells (grownCap w m' 0 e - m')).toList, rfl, ?_, hge, grownCap_le_maxLen w m' 0 e hmx, ?_, ?_, hm⟩, ?_, .inr (Nat.le_refl _)⟩
  · have := hn.at_
    unfold Blk
    rw [show (w.drew.heap.size) = w.heap.size from rfl] at this
    rw [this]
    congr 2
    apply Array.ext'; simp
  · have hG : m' + (grownCap w m' 0 e - m') = grownCap w m' 0 e := by omega
    have hZ : (Builtin.zeroCells z.cells (grownCap w m' 0 e - m')).toList.length = (grownCap w m' 0 e - m') * i.size := by rw [Array.length_toList, size_zeroCells, ht.zs]
    rw [List.length_append, hZ, hm, ← Nat.add_mul, hG]
  · rw [List.take_append_of_le_length (by rw [hm]; exact Nat.le_refl _), ← hm, List.take_length]
  · exact ⟨rfl, rfl, rfl, by show _ ≤ (w.heap.push _).size; simp, fun k hk _ => heap_alloc_old w.drew _ k hk⟩

/-! ### Appends, makes, literals, in their places -/
theorem app {P : Program} {w : World} {t e ty : TypeId} {size bytes : Nat} {z : Value} {K : Value → World → Prop} (ht : TyS P t e size bytes z) {b n : Nat} (m : Nat) {v y : Value} {xs ys : List Value} (h : Own w b e size v n xs) (hy : Sl w y size ys) (hm : ys.length = m * size) (h1 : ∀ u ∈ ys, u.oneCell' = true)
    (hbig : (n + m) * (bytes + 1) ≤ 140737488355328) (hK : ∀ v' w' b', Own w' b' e size v' (n + m) (xs ++ ys) → Mod [b] w w' → (b' = b ∨ w.heap.size ≤ b') → K v' w') : Pr P (Builtin.append_ #[t, t] ty #[v, y]) w (.one .any) K := by
  obtain ⟨v', w', hr, b', ho, mm, hb⟩ := app_run (ty := ty) ht h hy hm h1 hbig
  exact ⟨v', w', hr, hK v' w' b' ho mm (by simpa using hb)⟩
theorem app_nil {P : Program} {w : World} {t e ty : TypeId} {size bytes : Nat} {z : Value} {K : Value → World → Prop} (ht : TyS P t e size bytes z) (m : Nat) {y : Value} {ys : List Value} (hy : Sl w y size ys) (hm : ys.length = m * size) (h0 : 0 < m)
    (hbig : m * (bytes + 1) ≤ 140737488355328) (hK : ∀ v' w' b', Own w' b' e size v' m ys → Mod [] w w' → w.heap.size ≤ b' → K v' w') : Pr P (Builtin.append_ #[t, t] ty #[.slice none 0 0, y]) w (.one .any) K := by
  obtain ⟨v', w', hr, b', ho, mm, hb⟩ := app_nil_run (ty := ty) ht hy hm h0 hbig
  exact ⟨v', w', hr, hK v' w' b' ho mm (by simpa using hb)⟩
theorem mk_run {P : Program} {t e : TypeId} {bytes : Nat} {z : Value} (ht : TyS P t e 1 bytes z) (xs : List Value) {parts : Array (Nat × Value)} {n : Nat} (hn : xs.length = n) (hp : ∀ init : Array Value, init.size = n → Instr.fill (fun i => some (i * 1, 1)) init parts.toList = some xs.toArray)
    (hsm : n ≤ 16777216) (w : World) : (Instr.buildSlice t n parts).run P w = .ok (.slice (some ⟨w.heap.size, 0, none⟩) n n) (w.alloc (.cells xs.toArray e)) := by
  obtain ⟨i, hi, hzi, hs, hb⟩ := ht.parts
  have hsz : (P.info? e).map (·.size) = some 1 := by rw [hi]; exact congrArg some hs
  have hzz : (P.info? e).map (·.zero) = some (some z) := by rw [hi]; exact congrArg some hzi
  unfold Instr.buildSlice
  simp only [Sem.run_bind, run_underlying ht.und, Result.andThen_ok, sizeOf_run hsz]
  rw [if_neg (by omega)]
  by_cases h0 : n = 0
  · subst h0
    have hx : xs = [] := List.eq_nil_of_length_eq_zero hn
    subst hx
    simp only [Nat.zero_mul, if_true, Sem.run_pure, Result.andThen_ok, Sem.run_bind]
    rw [hp _ (by simp)]
    rfl
  · rw [if_neg (by omega)]
    simp only [Sem.run_bind, zero_run hzz, Result.andThen_ok, Sem.run_pure]
    rw [hp _ (by simp)]
    rfl
theorem fill1 {x : Value} (hx : x.cells = #[x]) : ∀ init : Array Value, init.size = 1 → Instr.fill (fun i => some (i * 1, 1)) init #[(0, x)].toList = some [x].toArray := by
  rintro ⟨l⟩ h
  match l, h with
  | [a], _ => simp [Instr.fill, hx]
theorem fill2 {x y : Value} (hx : x.cells = #[x]) (hy : y.cells = #[y]) : ∀ init : Array Value, init.size = 2 → Instr.fill (fun i => some (i * 1, 1)) init #[(0, x), (1, y)].toList = some [x, y].toArray := by
  rintro ⟨l⟩ h
  match l, h with
  | [a, b], _ => simp [Instr.fill, hx, hy]
theorem fill3 {x y u : Value} (hx : x.cells = #[x]) (hy : y.cells = #[y]) (hu : u.cells = #[u]) : ∀ init : Array Value, init.size = 3 → Instr.fill (fun i => some (i * 1, 1)) init #[(0, x), (1, y), (2, u)].toList = some [x, y, u].toArray := by
  rintro ⟨l⟩ h
  match l, h with
  | [a, b, c], _ => simp [Instr.fill, hx, hy, hu]
theorem mk0 {P : Program} {w : World} {t e : TypeId} {bytes : Nat} {z : Value} {K : Value → World → Prop} (ht : TyS P t e 1 bytes z) (hK : ∀ b w', New w w' b (.cells ([] : List Value).toArray e) → Own w' b e 1 (.slice (some ⟨b, 0, none⟩) 0 0) 0 [] → K (.slice (some ⟨b, 0, none⟩) 0 0) w') :
    Pr P (Instr.buildSlice t 0 #[]) w (.one .any) K :=
  ⟨_, _, mk_run (n := 0) ht [] rfl (fun init h => by rcases init with ⟨l⟩; cases l with | nil => rfl | cons _ _ => cases h) (by omega) w, hK _ _ (new_alloc w _) (own_new (new_alloc w _).at_ rfl (by unfold maxLen; omega))⟩
theorem mk1 {P : Program} {w : World} {t e : TypeId} {bytes : Nat} {z x : Value} {K : Value → World → Prop} (ht : TyS P t e 1 bytes z) (hx : x.cells = #[x]) (hK : ∀ b w', New w w' b (.cells [x].toArray e) → Own w' b e 1 (.slice (some ⟨b, 0, none⟩) 1 1) 1 [x] → K (.slice (some ⟨b, 0, none⟩) 1 1) w') :
    Pr P (Instr.buildSlice t 1 #[(0, x)]) w (.one .any) K :=
  ⟨_, _, mk_run (n := 1) ht [x] rfl (fill1 hx) (by omega) w, hK _ _ (new_alloc w _) (own_new (new_alloc w _).at_ rfl (by unfold maxLen; omega))⟩
theorem mk2 {P : Program} {w : World} {t e : TypeId} {bytes : Nat} {z x y : Value} {K : Value → World → Prop} (ht : TyS P t e 1 bytes z) (hx : x.cells = #[x]) (hy : y.cells = #[y]) (hK : ∀ b w', New w w' b (.cells [x, y].toArray e) → Own w' b e 1 (.slice (some ⟨b, 0, none⟩) 2 2) 2 [x, y] → K (.slice (some ⟨b, 0, none⟩) 2 2) w') :
    Pr P (Instr.buildSlice t 2 #[(0, x), (1, y)]) w (.one .any) K :=
  ⟨_, _, mk_run (n := 2) ht [x, y] rfl (fill2 hx hy) (by omega) w, hK _ _ (new_alloc w _) (own_new (new_alloc w _).at_ rfl (by unfold maxLen; omega))⟩
theorem mk3 {P : Program} {w : World} {t e : TypeId} {bytes : Nat} {z x y u : Value} {K : Value → World → Prop} (ht : TyS P t e 1 bytes z) (hx : x.cells = #[x]) (hy : y.cells = #[y]) (hu : u.cells = #[u]) (hK : ∀ b w', New w w' b (.cells [x, y, u].toArray e) → Own w' b e 1 (.slice (some ⟨b, 0, none⟩) 3 3) 3 [x, y, u] → K (.slice (some ⟨b, 0, none⟩) 3 3) w') :
    Pr P (Instr.buildSlice t 3 #[(0, x), (1, y), (2, u)]) w (.one .any) K :=
  ⟨_, _, mk_run (n := 3) ht [x, y, u] rfl (fill3 hx hy hu) (by omega) w, hK _ _ (new_alloc w _) (own_new (new_alloc w _).at_ rfl (by unfold maxLen; omega))⟩

/-! ### Numbers and bools -/
theorem cvt {P : Program} {src dst : TypeId} {k k' : IntKind} {n : Int} {K : Int → Prop} (hs : (P.underlying src).isSome = true) (hd : P.underlying dst = some (.int k')) (hK : K (k'.wrap n)) : QAll P (convert src dst (.int k n)) (.int k') K := by
  refine ⟨k'.wrap n, fun w => ?_, hK⟩
  obtain ⟨d, hd'⟩ := Option.isSome_iff_exists.1 hs
  unfold convert
  simp only [Sem.run_bind, run_underlying hd', run_underlying hd, Result.andThen_ok]
  cases d <;> rfl
theorem wrap_small {n : Int} (h0 : -9223372036854775808 ≤ n) (h1 : n ≤ 9223372036854775807) : IntKind.i64.wrap n = n := IntWalk.i64_in n ⟨h0, h1⟩
theorem wrap_u8 {n : Int} (h0 : 0 ≤ n) (h1 : n < 256) : IntKind.u8.wrap n = n := IntWalk.u8_in n ⟨h0, by omega⟩
theorem mn {P : Program} {k : IntKind} {at_ : Array TypeId} {ty : TypeId} {x y : Int} {K : Int → Prop} (hK : K (if y < x then y else x)) : QAll P (Builtin.min_ at_ ty #[.int k x, .int k y]) (.int k) K :=
  ⟨_, fun _ => rfl, hK⟩
theorem mx {P : Program} {k : IntKind} {at_ : Array TypeId} {ty : TypeId} {x y : Int} {K : Int → Prop} (hK : K (if y > x then y else x)) : QAll P (Builtin.max_ at_ ty #[.int k x, .int k y]) (.int k) K :=
  ⟨_, fun _ => rfl, hK⟩
theorem eqB_run {P : Program} {t : TypeId} (ht : P.underlying t = some .bool) (ox oy : Operand) (a b : Bool) (w : World) : (do eqGuard .eql t ox oy (.bool a) (.bool b); binOp .eql t (.bool a) (.bool b) : Sem Value).run P w = .ok (.bool (a == b)) w := by
  rw [Sem.run_bind, show (eqGuard .eql t ox oy (.bool a) (.bool b)).run P w = .ok () w from rfl]
  exact run_eql_bool w t a b ht
theorem neqB_run {P : Program} {t : TypeId} (ht : P.underlying t = some .bool) (ox oy : Operand) (a b : Bool) (w : World) : (do eqGuard .neq t ox oy (.bool a) (.bool b); binOp .neq t (.bool a) (.bool b) : Sem Value).run P w = .ok (.bool (a != b)) w := by
  rw [Sem.run_bind, show (eqGuard .neq t ox oy (.bool a) (.bool b)).run P w = .ok () w from rfl]
  simp only [Result.andThen_ok, binOp, Sem.run_bind, run_equal_bool w t a b ht]
  rfl
theorem eqB {P : Program} {t : TypeId} {ox oy : Operand} {a b : Bool} {K : Bool → Prop} (ht : P.underlying t = some .bool) (hK : K (a == b)) : QAll P (do eqGuard .eql t ox oy (.bool a) (.bool b); binOp .eql t (.bool a) (.bool b)) .bool K :=
  ⟨_, fun w => eqB_run ht ox oy a b w, hK⟩
theorem neqB {P : Program} {t : TypeId} {ox oy : Operand} {a b : Bool} {K : Bool → Prop} (ht : P.underlying t = some .bool) (hK : K (a != b)) : QAll P (do eqGuard .neq t ox oy (.bool a) (.bool b); binOp .neq t (.bool a) (.bool b)) .bool K :=
  ⟨_, fun w => neqB_run ht ox oy a b w, hK⟩
theorem part_run {P : Program} {e : TypeId} {z : Value} {n : Nat} (ht : Ty1 P e z n) {l : List Value} {off : Nat} {v : Value} (hv : l[off]? = some v) (w : World) : (part e l.toArray off).run P w = .ok v w := by
  obtain ⟨d, hd, hf⟩ := ht.und
  unfold part
  rw [Sem.run_bind, isAgg_run hd, hf]
  simp [hv]
theorem ixV {P : Program} {t e : TypeId} {len bytes : Nat} {z : Value} {l : List Value} {k : IntKind} {i : Int} {tk : TK} {x : tk.T} {K : tk.T → Prop} (hu : P.underlying t = some (.array len e)) (ht : Ty1 P e z bytes) (h0 : 0 ≤ i) (h1 : i < len) (hv : l[i.toNat]? = some (tk.val x)) (hK : K x) :
    QAll P (Instr.index t (.agg l.toArray) (.int k i)) tk K := by
  refine ⟨x, fun w => ?_, hK⟩
  unfold Instr.index
  simp only [asIntOf, Sem.run_bind, Sem.run_pure, Result.andThen_ok, run_underlying hu]
  rw [if_pos ⟨h0, h1⟩]
  simp only [Sem.run_bind, sizeOf_run ht.size, Result.andThen_ok, Nat.mul_one]
  exact part_run ht hv w

/-! ### Places in own blocks -/
theorem ixRp {P : Program} {t e : TypeId} {len b off : Nat} {k : IntKind} {i : Int} {K : Value → Prop} (ht : TyR P t e len 1) (h0 : 0 ≤ i) (h1 : i < len) (hK : K (ptr b (off + i.toNat))) : QAll P (Instr.indexAt t (ptr b off) (.int k i)) .any K :=
  ixR ht ⟨_, rfl⟩ h0 h1 (by simpa [padd, add_none] using hK)
theorem fldp {P : Program} {s : TypeId} {f o b off : Nat} {K : Value → Prop} (ht : TyF P s f o) (hK : K (ptr b (off + o))) : QAll P (Instr.fieldAt s (ptr b off) f) .any K :=
  fld ht (.inl ⟨_, rfl⟩) ⟨_, rfl⟩ (by simpa [padd, add_none] using hK)
theorem fill_step {α : Type} {xs zs : List α} {i : Nat} (h : i < xs.length) (hl : xs.length = zs.length) : (xs.take i ++ zs.drop i).set i xs[i] = xs.take (i + 1) ++ zs.drop (i + 1) := by
  apply List.ext_getElem?
  intro j
  by_cases hj : i = j
  · subst hj
    rw [List.getElem?_set_self (by simp; omega), List.getElem?_append_left (by simp; omega), List.getElem?_take_of_lt (by omega), List.getElem?_eq_getElem h]
  · rw [List.getElem?_set_ne hj]
    by_cases hlt : j < i
    · rw [List.getElem?_append_left (by simp; omega), List.getElem?_append_left (by simp; omega), List.getElem?_take_of_lt hlt, List.getElem?_take_of_lt (by omega)]
    · rw [List.getElem?_append_right (by simp; omega), List.getElem?_append_right (by simp; omega), List.getElem?_drop, List.getElem?_drop]
      congr 1
      simp only [List.length_take]
      omega

/-- A function value is called. -/
theorem cv {P : Program} {f : FuncId} {first cap args all : Array Value} {w : World} {t : RT} {K : t.T → World → Prop} (ha : first ++ args ++ cap = all) (h : Fc P f all w t K) : callV P (.func (.func f) first cap) args w t K := by
  subst ha; exact h

/-! ### Tests -/
theorem ne_f {a b : Int} (h : (a != b) = false) : a = b := by simpa using h
theorem ne_t {a b : Int} (h : (a != b) = true) : a ≠ b := by simpa using h
theorem eq_f {a b : Int} (h : (a == b) = false) : a ≠ b := by simpa using h
theorem eq_t {a b : Int} (h : (a == b) = true) : a = b := by simpa using h
theorem not_f {b : Bool} (h : (!b) = false) : b = true := by simpa using h
theorem not_t {b : Bool} (h : (!b) = true) : b = false := by simpa using h
theorem dec_t {p : Prop} {_ : Decidable p} (h : decide p = true) : p := of_decide_eq_true h
theorem dec_f {p : Prop} {_ : Decidable p} (h : decide p = false) : ¬ p := of_decide_eq_false h
theorem notd_f {p : Prop} {_ : Decidable p} (h : (!decide p) = false) : p := of_decide_eq_true (not_f h)
theorem notd_t {p : Prop} {_ : Decidable p} (h : (!decide p) = true) : ¬ p := of_decide_eq_false (not_t h)

/-! ### Loops -/
/-- A loop by what holds at each round's head, and a measure. -/
theorem lp {U S : Type} {c : Code} {u : U} {body : (U → S → World → Prop) → S → World → Prop} {s : S} {w : World} (I : S → World → Prop) (μ : S → World → Nat) (h0 : I s w)
    (step : ∀ s w (N : U → S → World → Prop), I s w → (∀ s' w', I s' w' → μ s' w' < μ s w → N u s' w') → body N s w) : At c c (LOOP u body s w) :=
  ⟨rfl, ⟨⟨I, μ, h0, fun s w hI => step s w _ hI fun _ _ h1 h2 => ⟨rfl, h1, h2⟩⟩⟩⟩
end Go.Proofs.Ytlbhpbaeokgmaaa.Mem

/- The table of kinds, the types and the functions by their names. No condition. -/
namespace Go.Proofs.Ytlbhpbaeokgmaaa
open Go Go.RowKit Eng Mem
set_option linter.unusedVariables false
set_option maxRecDepth 100000
/-- The kinds of the program's types, by their numbers. -/
abbrev ty : List RT := [.unit, (.one .any), (.one (.int .i64)), (.one (.int .i64)), (.one .bool), (.one (.int .u8)), (.one (.int .u8)), (.one .any), (.one .any), (.one .str), (.one .str), (.one .str), (.one (.int .u64)), (.one .any), (.one .any), (.one .any), (.one .any), (.one .any), (.one .any), (.one .any), (.one .any), (.one (.int .i32)), (.one .any), (.one .any), (.one .any), (.three (.int .i64) .any (.int .i64)), (.one .any), (.two .any (.int .i64)), (.one .any), (.two .bool (.int .i64)), (.one .any), (.two (.int .i64) (.int .i64)), (.one .any), (.one .any), (.one .any), (.three (.int .i64) (.int .i64) (.int .i64)), (.one .any), (.one .any), (.one .any), (.one .any), (.one .any), (.one .any), (.one .any), (.one .any), (.one .any), (.one .any), (.one .any), (.one .any), (.one .any), (.one .any), (.one .any), (.one .any), (.one .any), (.one .any), (.one .any), (.one .any), (.one .any), (.one .any), (.one .any), (.one .any), (.one .any), (.one .any), (.one .any), (.one .any), (.one .any), (.one .any), (.two .any .bool), (.one .any), (.one .any), (.one .any), (.one .any), (.one .any), (.one .any), (.one .any), (.one .any), (.one .any), (.one .any), (.one .any), (.one .any), (.one .any), (.one .any), (.one .any), (.one .any), (.one .any), (.one .any), (.one (.int .u64)), (.one .any), (.one .any), (.one (.int .u64)), (.one .any), (.one .any), (.one .any), (.one .any), (.one .any), (.two (.int .i64) .bool), (.one .any), (.one .any), (.one .any), (.one .any), (.one .any), (.one .any), (.one (.int .i64)), (.two (.int .i64) (.int .i64)), (.one .any), (.one .any), (.one .any), (.one .any), (.two (.int .i64) .bool), (.one .any), (.one .any), (.one (.int .u32)), (.one .any), (.one (.int .u64)), (.one .any), (.one .any), (.one .any), (.one .any), (.one .any), (.one .any), (.two (.int .i64) (.int .i64)), (.one .any), (.one .any), (.one .any), (.one .any), (.one .any), (.one .any), (.one .any), (.one .any), (.one (.int .u8)), (.one (.int .u8)), (.one .any), (.one .any), (.one (.int .i32)), (.one (.int .i32)), (.one .any), (.one .any), (.one .any), (.one .any)]
theorem follows : Try.prog.follows .mixedOrders = true := by kernel_rfl
abbrev tI : TypeId := 2
abbrev tN : TypeId := 3
abbrev tb : TypeId := 4
abbrev tB : TypeId := 5
abbrev tS : TypeId := 9
abbrev tU : TypeId := 85
abbrev tSI : TypeId := 24
abbrev tSSI : TypeId := 52
abbrev tA : TypeId := 41
abbrev tC : TypeId := 45
abbrev tCL : TypeId := 43
abbrev tSB : TypeId := 22
abbrev tPC : TypeId := 89
abbrev tSo : TypeId := 87
abbrev tK4 : TypeId := 93
abbrev tMp : TypeId := 80
theorem yI : Ty1 Try.prog tI (.int .i64 0) 8 := ⟨⟨_, Try.underlying2, rfl⟩, by kernel_rfl, rfl⟩
theorem yN : Ty1 Try.prog tN (.int .i64 0) 8 := ⟨⟨_, Try.underlying3, rfl⟩, by kernel_rfl, rfl⟩
theorem yb : Ty1 Try.prog tb (.bool false) 1 := ⟨⟨_, Try.underlying4, rfl⟩, by kernel_rfl, rfl⟩
theorem yB : Ty1 Try.prog tB (.int .u8 0) 1 := ⟨⟨_, Try.underlying5, rfl⟩, by kernel_rfl, rfl⟩
theorem yU : Ty1 Try.prog tU (.int .u64 0) 8 := ⟨⟨_, Try.underlying85, rfl⟩, by kernel_rfl, rfl⟩
theorem y1SI : Ty1 Try.prog tSI (.slice none 0 0) 24 := ⟨⟨_, Try.underlying24, rfl⟩, by kernel_rfl, rfl⟩
theorem y1SSI : Ty1 Try.prog tSSI (.slice none 0 0) 24 := ⟨⟨_, Try.underlying52, rfl⟩, by kernel_rfl, rfl⟩
theorem y1PC : Ty1 Try.prog tPC (.pointer none) 8 := ⟨⟨_, Try.underlying89, rfl⟩, by kernel_rfl, rfl⟩
theorem y1SB : Ty1 Try.prog tSB (.slice none 0 0) 24 := ⟨⟨_, Try.underlying22, rfl⟩, by kernel_rfl, rfl⟩
theorem y1S : Ty1 Try.prog tS (.string ⟨#[]⟩) 16 := ⟨⟨_, Try.underlying9, rfl⟩, by kernel_rfl, rfl⟩
theorem ySI : TyS Try.prog tSI tI 1 8 (.int .i64 0) := ⟨Try.underlying24, by kernel_rfl, rfl, by omega⟩
theorem ySSI : TyS Try.prog tSSI tSI 1 24 (.slice none 0 0) := ⟨Try.underlying52, by kernel_rfl, rfl, by omega⟩
theorem ySB : TyS Try.prog tSB tB 1 1 (.int .u8 0) := ⟨Try.underlying22, by kernel_rfl, rfl, by omega⟩
theorem Try.underlyingTI : Try.prog.underlying tI = some (.int .i64) := Try.underlying2
theorem Try.underlyingTB : Try.prog.underlying tB = some (.int .u8) := Try.underlying5
theorem Try.underlyingTN : Try.prog.underlying tN = some (.int .i64) := Try.underlying3
theorem Try.underlyingTb : Try.prog.underlying tb = some (.bool) := Try.underlying4
theorem Try.underlyingTA : Try.prog.underlying tA = some (.array 136 tB) := Try.underlying41
def zA : List Value := List.replicate 136 (.int .u8 0)
def zC : List Value := .int .i64 0 :: .int .i64 0 :: zA
def zAb : List Value := List.replicate 136 (.bool false)
theorem yA : TyA Try.prog tA zA := ⟨⟨_, Try.underlying41, rfl⟩, by kernel_rfl⟩
theorem yC : TyA Try.prog tC zC := ⟨⟨_, Try.underlying45, rfl⟩, by kernel_rfl⟩
theorem yCL : TyA Try.prog tCL zC := ⟨⟨_, Try.underlying43, rfl⟩, by kernel_rfl⟩
theorem yR : TyR Try.prog tA tB 136 1 := ⟨Try.underlying41, by kernel_rfl, by omega⟩
theorem f0 : TyF Try.prog tC 0 0 := ⟨_, _, Try.underlying45, rfl, rfl, 0, by kernel_rfl⟩
theorem f1 : TyF Try.prog tC 1 1 := ⟨_, _, Try.underlying45, rfl, rfl, 0, by kernel_rfl⟩
theorem f2 : TyF Try.prog tC 2 2 := ⟨_, _, Try.underlying45, rfl, rfl, 135, by kernel_rfl⟩
theorem g0 : TyF Try.prog tCL 0 0 := ⟨_, _, Try.underlying43, rfl, rfl, 0, by kernel_rfl⟩
theorem g1 : TyF Try.prog tCL 1 1 := ⟨_, _, Try.underlying43, rfl, rfl, 0, by kernel_rfl⟩
theorem g2 : TyF Try.prog tCL 2 2 := ⟨_, _, Try.underlying43, rfl, rfl, 135, by kernel_rfl⟩
def zSo : List Value := [.slice none 0 0, .int .i64 0, .int .u64 0]
theorem ySo : TyA Try.prog tSo zSo := ⟨⟨_, Try.underlying87, rfl⟩, by kernel_rfl⟩
theorem so0 : TyF Try.prog tSo 0 0 := ⟨_, _, Try.underlying87, rfl, rfl, 0, by kernel_rfl⟩
theorem so1 : TyF Try.prog tSo 1 1 := ⟨_, _, Try.underlying87, rfl, rfl, 0, by kernel_rfl⟩
theorem so2 : TyF Try.prog tSo 2 2 := ⟨_, _, Try.underlying87, rfl, rfl, 0, by kernel_rfl⟩
def zK4 : List Value := List.replicate 4 (.int .i64 0)
theorem yK4 : TyA Try.prog tK4 zK4 := ⟨⟨_, Try.underlying93, rfl⟩, by kernel_rfl⟩
theorem yRK : TyR Try.prog tK4 tI 4 1 := ⟨Try.underlying93, by kernel_rfl, by omega⟩
abbrev F_main_main : FuncId := 0
abbrev F_gosem_cut : FuncId := 1
abbrev F_gosem_cut_init : FuncId := 2
abbrev F_laws_FnSumParts : FuncId := 3
abbrev F_laws_FnExactIsColouring : FuncId := 4
abbrev F_laws_FnExactNeighbourBound : FuncId := 5
abbrev F_laws_big : FuncId := 6
abbrev F_spec_DrawFirstFault : FuncId := 7
abbrev F_impl_FirstFault : FuncId := 8
abbrev F_spec_FirstFault : FuncId := 9
abbrev F_impl_IsFree : FuncId := 10
abbrev F_spec_IsFree : FuncId := 11
abbrev F_impl_CountFaults : FuncId := 12
abbrev F_spec_CountFaults : FuncId := 13
abbrev F_impl_ColoursNext : FuncId := 14
abbrev F_spec_ColoursNext : FuncId := 15
abbrev F_laws_likeInts : FuncId := 16
abbrev F_impl_ReflectPart : FuncId := 17
abbrev F_impl_ClassOfColour : FuncId := 18
abbrev F_spec_DrawFirstFree : FuncId := 19
abbrev F_impl_FirstFree : FuncId := 20
abbrev F_spec_FirstFree : FuncId := 21
abbrev F_spec_DrawCountFree : FuncId := 22
abbrev F_impl_CountFree : FuncId := 23
abbrev F_spec_CountFree : FuncId := 24
abbrev F_spec_DrawGreatestFree : FuncId := 25
abbrev F_impl_GreatestFree : FuncId := 26
abbrev F_spec_GreatestFree : FuncId := 27
abbrev F_spec_IsColouring : FuncId := 28
abbrev F_laws_toColouring : FuncId := 29
abbrev F_impl_IsColouring : FuncId := 30
abbrev F_spec_NeighbourBound : FuncId := 31
abbrev F_laws_toInt64S : FuncId := 32
abbrev F_impl_NeighbourBound : FuncId := 33
abbrev F_laws_eqInt64S : FuncId := 34
abbrev F_spec_l07With : FuncId := 35
abbrev F_impl_partCode : FuncId := 36
abbrev F_impl_faults : FuncId := 37
abbrev F_spec_l07Code : FuncId := 38
abbrev F_spec_l07Fault : FuncId := 39
abbrev F_impl_sizeSS : FuncId := 40
abbrev F_spec_l07At : FuncId := 41
abbrev F_impl_goesOn : FuncId := 42
abbrev F_slices_Clone_int64_int64 : FuncId := 43
abbrev F_spec_l07Next : FuncId := 44
abbrev F_impl_isPart : FuncId := 45
abbrev F_slices_Reverse_int64_int64 : FuncId := 46
abbrev F_impl_in : FuncId := 47
abbrev F_spec_l07Numbers : FuncId := 48
abbrev F_impl_isFaultKind : FuncId := 49
abbrev F_impl_free : FuncId := 50
abbrev F_impl_FirstFree_1 : FuncId := 51
abbrev F_impl_sizeS : FuncId := 52
abbrev F_spec_l01In : FuncId := 53
abbrev F_spec_l07Find : FuncId := 54
abbrev F_spec_l01Next : FuncId := 55
abbrev F_spec_l01From : FuncId := 56
abbrev F_impl_CountFree_1 : FuncId := 57
abbrev F_spec_l07Count : FuncId := 58
abbrev F_impl_GreatestFree_1 : FuncId := 59
abbrev F_spec_l01Is : FuncId := 60
abbrev F_laws_toByteA136 : FuncId := 61
abbrev F_impl_Colouring_isColouring : FuncId := 62
abbrev F_spec_l08Table : FuncId := 63
abbrev F_impl_areIn : FuncId := 64
abbrev F_impl_neighbourBound : FuncId := 65
abbrev F_slices_Sorted_int64 : FuncId := 66
abbrev F_slices_Values_int64_int64 : FuncId := 67
abbrev F_spec_l07Draw : FuncId := 68
abbrev F_spec_l01Pick : FuncId := 69
abbrev F_impl_faultsAt : FuncId := 70
abbrev F_impl_faults_1 : FuncId := 71
abbrev F_spec_l01All : FuncId := 72
abbrev F_impl_goesOn_1 : FuncId := 73
abbrev F_spec_l01Own : FuncId := 74
abbrev F_spec_l01Near : FuncId := 75
abbrev F_impl_Colouring_edges : FuncId := 76
abbrev F_spec_l08Bound : FuncId := 77
abbrev F_spec_l08Step : FuncId := 78
abbrev F_slices_ContainsFunc_int64_int64 : FuncId := 79
abbrev F_impl_areIn_1 : FuncId := 80
abbrev F_slices_DeleteFunc_int64_int64 : FuncId := 81
abbrev F_impl_neighbourBound_1 : FuncId := 82
abbrev F_slices_Sort_int64_int64 : FuncId := 83
abbrev F_slices_Collect_int64 : FuncId := 84
abbrev F_slices_Values_int64_int64_1 : FuncId := 85
abbrev F_slices_IndexFunc_int64_int64 : FuncId := 86
abbrev F_slices_pdqsortOrdered_int64 : FuncId := 87
abbrev F_math_bits_Len : FuncId := 88
abbrev F_slices_AppendSeq_int64_int64 : FuncId := 89
abbrev F_slices_insertionSortOrdered_int64 : FuncId := 90
abbrev F_slices_heapSortOrdered_int64 : FuncId := 91
abbrev F_slices_breakPatternsOrdered_int64 : FuncId := 92
abbrev F_slices_choosePivotOrdered_int64 : FuncId := 93
abbrev F_slices_reverseRangeOrdered_int64 : FuncId := 94
abbrev F_slices_partialInsertionSortOrdered_int64 : FuncId := 95
abbrev F_cmp_Less_int64 : FuncId := 96
abbrev F_slices_partitionEqualOrdered_int64 : FuncId := 97
abbrev F_slices_partitionOrdered_int64 : FuncId := 98
abbrev F_math_bits_Len32 : FuncId := 99
abbrev F_math_bits_Len64 : FuncId := 100
abbrev F_slices_siftDownOrdered_int64 : FuncId := 101
abbrev F_slices_nextPowerOfTwo : FuncId := 102
abbrev F_slices_xorshift_Next : FuncId := 103
abbrev F_slices_medianAdjacentOrdered_int64 : FuncId := 104
abbrev F_slices_medianOrdered_int64 : FuncId := 105
abbrev F_cmp_isNaN_int64 : FuncId := 106
abbrev F_slices_order2Ordered_int64 : FuncId := 107
abbrev F_runtime_boundsError_Error : FuncId := 108
abbrev F_runtime_boundsError_RuntimeError : FuncId := 109
abbrev F_runtime_errorString_Error : FuncId := 110
abbrev F_runtime_errorString_RuntimeError : FuncId := 111
abbrev F_runtime_plainError_Error : FuncId := 112
abbrev F_runtime_plainError_RuntimeError : FuncId := 113
abbrev F_runtime_errorAddressString_Error : FuncId := 114
abbrev F_runtime_errorAddressString_RuntimeError : FuncId := 115
abbrev F_runtime_TypeAssertionError_Error : FuncId := 116
abbrev F_runtime_TypeAssertionError_RuntimeError : FuncId := 117
abbrev F_runtime_PanicNilError_Error : FuncId := 118
abbrev F_runtime_PanicNilError_RuntimeError : FuncId := 119
abbrev F_internal_abi_Type_Align : FuncId := 120
abbrev F_internal_runtime_maps_unhashableTypeError_Error : FuncId := 121
abbrev F_internal_runtime_maps_unhashableTypeError_RuntimeError : FuncId := 122
abbrev F_impl_Colouring_grown : FuncId := 123
abbrev F_internal_abi_Kind_String : FuncId := 124
end Go.Proofs.Ytlbhpbaeokgmaaa

/- Colourings as plain data, and how they lie in memory. No condition. -/
namespace Go.Proofs.Ytlbhpbaeokgmaaa
open Go Go.RowKit Eng Mem
set_option maxRecDepth 100000

structure Col where
  n : Int
  k : Int
  es : List Int
deriving DecidableEq
def Col.cells (c : Col) : List Value := .int .i64 c.n :: .int .i64 c.k :: c.es.map (Value.int .u8)
def Col.val (c : Col) : Value := .agg c.cells.toArray
structure Col.Ok (c : Col) : Prop where
  len : c.es.length = 136
  byte : ∀ e ∈ c.es, 0 ≤ e ∧ e < 256
  n0 : -9223372036854775808 ≤ c.n
  n1 : c.n ≤ 9223372036854775807
  k0 : -9223372036854775808 ≤ c.k
  k1 : c.k ≤ 9223372036854775807
def Col.e (c : Col) (i : Nat) : Int := c.es.getD i 0
/-- How many edges there are between so many points. -/
def edgesOf (n : Int) : Int := n * (n - 1) / 2
/-- The number of the edge of i and j, i less than j. -/
def enum (i j : Int) : Int := j * (j - 1) / 2 + i
def Col.Is (c : Col) : Prop := 1 ≤ c.n ∧ c.n ≤ 17 ∧ 1 ≤ c.k ∧ c.k ≤ 4 ∧ ∀ i : Nat, i < 136 → if (i : Int) < edgesOf c.n then c.e i < c.k else c.e i = 0
instance (c : Col) : Decidable c.Is := by unfold Col.Is; infer_instance
theorem edges_le {n : Int} (h0 : 1 ≤ n) (h1 : n ≤ 17) : 0 ≤ edgesOf n ∧ edgesOf n ≤ 136 := by
  have : n = 1 ∨ n = 2 ∨ n = 3 ∨ n = 4 ∨ n = 5 ∨ n = 6 ∨ n = 7 ∨ n = 8 ∨ n = 9 ∨ n = 10 ∨ n = 11 ∨ n = 12 ∨ n = 13 ∨ n = 14 ∨ n = 15 ∨ n = 16 ∨ n = 17 := by omega
  rcases this with h | h | h | h | h | h | h | h | h | h | h | h | h | h | h | h | h <;> subst h <;> decide
theorem Col.Ok.e_bd {c : Col} (h : c.Ok) (i : Nat) : 0 ≤ c.e i ∧ c.e i < 256 := by
  unfold Col.e
  by_cases hi : i < c.es.length
  · rw [List.getD_eq_getElem?_getD, List.getElem?_eq_getElem hi]
    exact h.byte _ (List.getElem_mem hi)
  · rw [List.getD_eq_getElem?_getD, List.getElem?_eq_none (by omega)]
    simp
abbrev ColAt (w : World) (p : Value) (c : Col) : Prop := Row w p c.cells
theorem Col.Ok.cells_len {c : Col} (h : c.Ok) : c.cells.length = zC.length := by
  simp [Col.cells, h.len, zC, zA]
theorem Col.cells_one (c : Col) : ∀ v ∈ c.cells, v.oneCell' = true := by
  intro v hv
  simp only [Col.cells, List.mem_cons, List.mem_map] at hv
  rcases hv with rfl | rfl | ⟨e, _, rfl⟩ <;> rfl
theorem col_n {w : World} {p : Value} {c : Col} {K : Int → Prop} (hx : ColAt w p c) (hK : K c.n) : QAll Try.prog (Instr.fieldAt tC p 0) .any fun q => QSub Try.prog (Instr.loadAt tI q) w (.int .i64) K :=
  fld f0 hx.nonnil hx.isPtr (ld yI (hx.get 0 rfl) hK)
theorem col_k {w : World} {p : Value} {c : Col} {K : Int → Prop} (hx : ColAt w p c) (hK : K c.k) : QAll Try.prog (Instr.fieldAt tC p 1) .any fun q => QSub Try.prog (Instr.loadAt tI q) w (.int .i64) K :=
  fld f1 hx.nonnil hx.isPtr (ld yI (hx.get 1 rfl) hK)
theorem Col.es_row {w : World} {p : Value} {c : Col} (hx : ColAt w p c) : Row w (padd p 2) (c.es.map (Value.int .u8)) :=
  hx.sub 2 fun i hi => by simp [Col.cells, Nat.add_comm 2 i]
theorem Col.e_get {c : Col} (h : c.Ok) {i : Nat} (hi : i < 136) : (c.es.map (Value.int .u8))[i]? = some (.int .u8 (c.e i)) := by
  have : i < c.es.length := by rw [h.len]; exact hi
  simp [Col.e, this]
theorem es_e {w : World} {q : Value} {c : Col} {ik : IntKind} {i : Int} {K : Int → Prop} (h : c.Ok) (hq : Row w q (c.es.map (Value.int .u8))) (h0 : 0 ≤ i) (h1 : i < 136) (hK : K (c.e i.toNat)) : QAll Try.prog (Instr.indexAt tA q (.int ik i)) .any fun r => QSub Try.prog (Instr.loadAt tB r) w (.int .u8) K :=
  ixR yR hq.isPtr h0 h1 (ld yB (by rw [Nat.mul_one]; exact hq.get _ (Col.e_get h (by omega))) hK)
theorem col_e {w : World} {p : Value} {c : Col} {ik : IntKind} {i : Int} {K : Int → Prop} (h : c.Ok) (hx : ColAt w p c) (h0 : 0 ≤ i) (h1 : i < 136) (hK : K (c.e i.toNat)) :
    QAll Try.prog (Instr.fieldAt tC p 2) .any fun q => QAll Try.prog (Instr.indexAt tA q (.int ik i)) .any fun r => QSub Try.prog (Instr.loadAt tB r) w (.int .u8) K :=
  fld f2 hx.nonnil hx.isPtr (es_e h (Col.es_row hx) h0 h1 hK)
theorem col_all {w : World} {p : Value} {c : Col} {K : Value → Prop} (h : c.Ok) (hx : ColAt w p c) (hK : K c.val) : QSub Try.prog (Instr.loadAt tC p) w .any K :=
  ldA yC h.cells_len hx hK
theorem col_box {w : World} {c : Col} {K : Value → World → Prop} (hK : ∀ b w', New w w' b (.cells c.cells.toArray tC) → ColAt w' (ptr b 0) c → K (ptr b 0) w') : Pr Try.prog (Instr.box tC c.val) w (.one .any) K :=
  box c.cells rfl fun b w' hn => hK b w' hn (row_all hn.at_)
theorem u8_int {n : Int} {K : Int → Prop} (h0 : 0 ≤ n) (h1 : n < 256) (hK : K n) : QAll Try.prog (convert tB tI (.int .u8 n)) (.int .i64) K :=
  cvt (by rw [Try.underlyingTB]; rfl) Try.underlyingTI (by rwa [wrap_small (by omega) (by omega)])
/-- What a place of the edges must hold. -/
def Col.at_ (c : Col) (i : Nat) : Prop := if (i : Int) < edgesOf c.n then c.e i < c.k else c.e i = 0
theorem wedges {n : Int} (h0 : 0 ≤ n) (h1 : n ≤ 17) : IntKind.i64.wrap (Int.tdiv (IntKind.i64.wrap (n * IntKind.i64.wrap (n - 1))) 2) = edgesOf n := by
  have : n = 0 ∨ n = 1 ∨ n = 2 ∨ n = 3 ∨ n = 4 ∨ n = 5 ∨ n = 6 ∨ n = 7 ∨ n = 8 ∨ n = 9 ∨ n = 10 ∨ n = 11 ∨ n = 12 ∨ n = 13 ∨ n = 14 ∨ n = 15 ∨ n = 16 ∨ n = 17 := by omega
  rcases this with h | h | h | h | h | h | h | h | h | h | h | h | h | h | h | h | h | h <;> subst h <;> decide
theorem Col.is_false {c : Col} (h : ¬ c.Is) : decide c.Is = false := decide_eq_false h
theorem Col.is_true {c : Col} (h : c.Is) : decide c.Is = true := decide_eq_true h
theorem Col.Ok.es_len {c : Col} (h : c.Ok) : (c.es.map (Value.int .u8)).length = zA.length := by simp [h.len, zA]
end Go.Proofs.Ytlbhpbaeokgmaaa

/- Slices of int64 as plain lists. No condition. -/
namespace Go.Proofs.Ytlbhpbaeokgmaaa
open Go Go.RowKit Eng Mem
set_option maxRecDepth 100000
abbrev iv (l : List Int) : List Value := l.map (Value.int .i64)
structure SlI (w : World) (v : Value) (l : List Int) : Prop where
  sl : Sl w v 1 (iv l)
  len : l.length ≤ 4611686018427387904
/-- Each is an int64. -/
def InI (l : List Int) : Prop := ∀ x ∈ l, -9223372036854775808 ≤ x ∧ x ≤ 9223372036854775807
abbrev OwnI (w : World) (b : Nat) (v : Value) (l : List Int) : Prop := Own w b tI 1 v l.length (iv l)
theorem SlI.keep {w w' : World} {v : Value} {l : List Int} (h : SlI w v l) (hb : Below w.heap.size w w') : SlI w' v l := ⟨h.sl.keep hb, h.len⟩
theorem own_slI {w : World} {b : Nat} {v : Value} {l : List Int} (h : OwnI w b v l) (hl : l.length ≤ 4611686018427387904) : SlI w v l := ⟨h.sl, hl⟩
theorem slI_nil (w : World) : SlI w (.slice none 0 0) [] := ⟨Sl.nil w 1, by simp⟩
theorem iv_one (l : List Int) : ∀ u ∈ iv l, u.oneCell' = true := fun u hu => by obtain ⟨e, _, rfl⟩ := List.mem_map.1 hu; rfl
theorem iv_get (l : List Int) {i : Nat} (h : i < l.length) : (iv l)[i]? = some (.int .i64 (l.getD i 0)) := by simp [iv, h]
theorem lenI {w : World} {v : Value} {l : List Int} {t : TypeId} {K : Int → Prop} (h : SlI w v l) (hK : K (l.length : Int)) : QAll Try.prog (Builtin.len_ #[tSI] t #[v]) (.int .i64) K :=
  len ySI h.sl (by simpa using hK)
/-- An element's place. -/
theorem ixI {w : World} {v : Value} {l : List Int} {k : IntKind} {i : Int} {K : Value → Prop} (h : SlI w v l) (h0 : 0 ≤ i) (h1 : i < l.length) (hK : ∀ p, Cell w p (.int .i64 (l.getD i.toNat 0)) → K p) :
    QAll Try.prog (Instr.indexAt tSI v (.int k i)) .any K :=
  ixS ySI h.sl h0 (by simp; omega) fun p hp => hK p (hp [_] fun j hj => by
    have : j = 0 := by simp at hj; exact hj
    subst this
    rw [Nat.mul_one, Nat.add_zero, iv_get l (by omega)]
    rfl)
/-- An element is read. -/
theorem atI {w : World} {v : Value} {l : List Int} {k : IntKind} {i : Int} {K : Int → Prop} (h : SlI w v l) (h0 : 0 ≤ i) (h1 : i < l.length) (hK : K (l.getD i.toNat 0)) :
    QAll Try.prog (Instr.indexAt tSI v (.int k i)) .any fun p => QSub Try.prog (Instr.loadAt tI p) w (.int .i64) K :=
  ixI h h0 h1 fun p hp => ld yI hp hK
/-- An element of an own slice: its place. -/
theorem ixO {w : World} {b : Nat} {v : Value} {l : List Int} {k : IntKind} {i : Int} {K : Value → Prop} (h : OwnI w b v l) (h0 : 0 ≤ i) (h1 : i < l.length) (hK : K (ptr b i.toNat)) :
    QAll Try.prog (Instr.indexAt tSI v (.int k i)) .any K := by
  obtain ⟨cap, l', rfl, hb, _⟩ := h.blk
  refine ⟨ptr b i.toNat, fun w' => ?_, hK⟩
  have hs : (Try.prog.info? tI).map (·.size) = some 1 := yI.size
  unfold Instr.indexAt
  simp [asIntOf, run_underlying ySI.und, sizeOf_run hs, h0, h1, add_none]
/-- An element of an own slice is written. -/
theorem putI {w : World} {b : Nat} {v : Value} {l : List Int} {k : IntKind} {i x : Int} {K : World → Prop} (h : OwnI w b v l) (h0 : 0 ≤ i) (h1 : i < l.length)
    (hK : ∀ w', Mod [b] w w' → w'.heap.size = w.heap.size → OwnI w' b v (l.set i.toNat x) → K w') :
    QAll Try.prog (Instr.indexAt tSI v (.int k i)) .any fun p => PrU Try.prog (Instr.storeAt tI p (.int .i64 x)) w K := by
  refine ixO h h0 h1 ?_
  obtain ⟨cap, l', hv, hb, ht, hl⟩ := h.blk
  refine st yI hb (by rw [Nat.mul_one] at hl; omega) rfl fun w' m hs hb' => hK w' m hs ?_
  have := h.set (u := .int .i64 x) hb hb'
  rw [← List.map_set] at this
  rwa [OwnI, List.length_set]
theorem mk_slice_run {P : Program} {t e : TypeId} {bytes : Nat} {z : Value} (ht : TyS P t e 1 bytes z) {k k' : IntKind} {n : Int} (h0 : 0 ≤ n) (h1 : n * (bytes + 1) ≤ 140737488355328) (hz : z.cells = #[z]) (w : World) :
    (Instr.makeSlice t (.int k n) (.int k' n)).run P w = .ok (.slice (some ⟨w.heap.size, 0, none⟩) n.toNat n.toNat) (w.alloc (.cells (List.replicate n.toNat z).toArray e)) := by
  obtain ⟨i, hi, hzi, hs, hb⟩ := ht.parts
  have hb1 : (0 : Int) ≤ n * bytes := Int.mul_nonneg h0 (by omega)
  have hbb : (i.bytes : Int) * n + n ≤ 140737488355328 := by rw [hb, Int.mul_comm]; rw [Int.mul_add, Int.mul_one] at h1; exact h1
  have hb2 : (0 : Int) ≤ i.bytes * n := by rw [hb, Int.mul_comm]; exact hb1
  rw [run_make (P := P) w t e i z ht.und hi hzi k k' n n h0 (Int.le_refl _) (by omega) (by omega), hs, Nat.mul_one]
  have : madeCells z.cells n.toNat = (List.replicate n.toNat z).toArray := by
    rw [hz]
    unfold madeCells
    apply Array.ext
    · simp
    · intro i h1 h2
      simp [Nat.mod_one]
  rw [this]
/-- A slice of noughts is made. -/
theorem mkI {w : World} {k k' : IntKind} {n : Int} {K : Value → World → Prop} (h0 : 0 ≤ n) (h1 : n ≤ 1099511627776) (hK : ∀ b v w', New w w' b (.cells (iv (List.replicate n.toNat 0)).toArray tI) → OwnI w' b v (List.replicate n.toNat 0) → K v w') :
    Pr Try.prog (Instr.makeSlice tSI (.int k n) (.int k' n)) w (.one .any) K := by
  refine ⟨_, _, mk_slice_run ySI h0 (by omega) rfl w, ?_⟩
  have e : iv (List.replicate n.toNat 0) = List.replicate n.toNat (.int .i64 0) := by simp [iv]
  have hn := new_alloc w (.cells (List.replicate n.toNat (.int .i64 0)).toArray tI)
  refine hK w.heap.size _ _ (by rw [e]; exact hn) ?_
  unfold OwnI
  rw [e, List.length_replicate]
  exact own_new hn.at_ (by simp) (by unfold maxLen; omega)
/-- An empty slice. -/
theorem nilI {w : World} {K : Value → World → Prop} (hK : ∀ b v w', w.heap.size = b → Below w.heap.size w w' → OwnI w' b v [] → K v w') : Pr Try.prog (Instr.buildSlice tSI 0 #[]) w (.one .any) K :=
  mk0 ySI fun b w' hn ho => hK b _ w' hn.here.symm hn.below ho
/-- One more at the end. -/
theorem appI {w : World} {b : Nat} {v : Value} {l : List Int} {x : Int} {t : TypeId} {K : Value → World → Prop} (h : OwnI w b v l) (hl : l.length ≤ 1099511627776)
    (hK : ∀ v' w' b', OwnI w' b' v' (l ++ [x]) → Mod [b] w w' → (b' = b ∨ w.heap.size ≤ b') → K v' w') :
    Pr Try.prog (Instr.buildSlice tSI 1 #[(0, .int .i64 x)]) w (.one .any) fun y w1 => Pr Try.prog (Builtin.append_ #[tSI, tSI] t #[v, y]) w1 (.one .any) K := by
  refine mk1 ySI rfl fun b1 w1 hn ho => ?_
  have h1 : OwnI w1 b v l := h.keep hn.below
  have hs : SlI w1 (.slice (some ⟨b1, 0, none⟩) 1 1) [x] := ⟨ho.sl, by simp⟩
  have e1 := hn.here; have s1 := hn.size; have lt := h.lt
  refine app ySI 1 h1 hs.sl (by simp) (iv_one _) (by omega) fun v' w' b' o m hb => hK v' w' b' ?_ ((hn.mod.mono (by simp)).trans m) (by omega)
  unfold OwnI
  rw [List.length_append, iv, List.map_append]
  exact o
/-- A slice's elements at the end of an own one. -/
theorem appsI {w : World} {b : Nat} {v y : Value} {l m : List Int} {t : TypeId} {K : Value → World → Prop} (h : OwnI w b v l) (hy : SlI w y m) (hl : l.length + m.length ≤ 1099511627776)
    (hK : ∀ v' w' b', OwnI w' b' v' (l ++ m) → Mod [b] w w' → (b' = b ∨ w.heap.size ≤ b') → K v' w') :
    Pr Try.prog (Builtin.append_ #[tSI, tSI] t #[v, y]) w (.one .any) K := by
  refine app ySI m.length h hy.sl (by simp) (iv_one _) (by omega) fun v' w' b' o mm hb => hK v' w' b' ?_ mm hb
  unfold OwnI
  rw [List.length_append, iv, List.map_append]
  exact o
/-- w' is w but for blocks from B up to E, and new ones. -/
structure ModR (B E : Nat) (w w' : World) : Prop where
  os : w'.os = w.os
  tape : w'.tape = w.tape
  output : w'.output = w.output
  size : w.heap.size ≤ w'.heap.size
  block : ∀ k, k < w.heap.size → (k < B ∨ E ≤ k) → w'.heap[k]? = w.heap[k]?
theorem ModR.refl (B E : Nat) (w : World) : ModR B E w w := ⟨rfl, rfl, rfl, Nat.le_refl _, fun _ _ _ => rfl⟩
theorem Mem.Mod.r {b B E : Nat} {w w' : World} (h : Mod [b] w w') (hb : B ≤ b) (he : b < E) : ModR B E w w' := ⟨h.os, h.tape, h.output, h.size, fun k hk hn => h.block k hk (by simp; omega)⟩
theorem ModR.below {B E B0 : Nat} {w w' : World} (h : ModR B E w w') (hB : B0 ≤ B) (hs : B0 ≤ w.heap.size) : Below B0 w w' := ⟨h.os, h.tape, h.output, h.size, fun k hk => h.block k (by omega) (by omega)⟩
theorem Mem.Row.modr {b off B E : Nat} {w w' : World} {vs : List Value} (h : Row w (ptr b off) vs) (m : ModR B E w w') (hd : b < B ∨ E ≤ b) : Row w' (ptr b off) vs := by
  obtain ⟨b', off', cs, e, fz, hp, ha, hr⟩ := h
  injection hp with hp; injection hp with hp; injection hp with h1 h2 _
  subst h1; subst h2
  exact ⟨_, _, cs, e, fz, rfl, by rw [m.block _ (at_lt ha) hd]; exact ha, hr⟩
theorem Mem.Own.modr {b B E e size n : Nat} {w w' : World} {v : Value} {xs : List Value} (h : Own w b e size v n xs) (m : ModR B E w w') (hd : b < B ∨ E ≤ b) : Own w' b e size v n xs := by
  obtain ⟨cap, l', hv, hb, r⟩ := h
  exact ⟨cap, l', hv, by unfold Blk; rw [m.block b (at_lt hb) hd]; exact hb, r⟩
/-- A slice of own: nil, or in a block from B up to E. -/
def MyI (B E : Nat) (w : World) (v : Value) (l : List Int) : Prop := l.length ≤ 1099511627776 ∧ ((v = .slice none 0 0 ∧ l = []) ∨ ∃ b, B ≤ b ∧ b < E ∧ OwnI w b v l)
theorem MyI.len {B E : Nat} {w : World} {v : Value} {l : List Int} (h : MyI B E w v l) : l.length ≤ 1099511627776 := h.1
theorem MyI.sl {B E : Nat} {w : World} {v : Value} {l : List Int} (h : MyI B E w v l) : SlI w v l := by
  rcases h with ⟨hl, ⟨rfl, rfl⟩ | ⟨b, _, _, h⟩⟩
  · exact slI_nil w
  · exact own_slI h (by omega)
theorem MyI.keep {B E : Nat} {w w' : World} {v : Value} {l : List Int} (h : MyI B E w v l) (hb : Below w.heap.size w w') : MyI B E w' v l := by
  rcases h with ⟨hl, h | ⟨b, hB, hE, h⟩⟩
  · exact ⟨hl, .inl h⟩
  · exact ⟨hl, .inr ⟨b, hB, hE, h.keep hb⟩⟩
theorem MyI.modr {B E B' E' : Nat} {w w' : World} {v : Value} {l : List Int} (h : MyI B E w v l) (m : ModR B' E' w w') (hd : E ≤ B' ∨ E' ≤ B) : MyI B E w' v l := by
  rcases h with ⟨hl, h | ⟨b, hB, hE, h⟩⟩
  · exact ⟨hl, .inl h⟩
  · exact ⟨hl, .inr ⟨b, hB, hE, h.modr m (by omega)⟩⟩
theorem MyI.mono {B E B' E' : Nat} {w : World} {v : Value} {l : List Int} (h : MyI B E w v l) (hb : B' ≤ B) (he : E ≤ E') : MyI B' E' w v l := by
  rcases h with ⟨hl, h | ⟨b, hB, hE, h⟩⟩
  · exact ⟨hl, .inl h⟩
  · exact ⟨hl, .inr ⟨b, by omega, by omega, h⟩⟩
theorem myI_nil (B E : Nat) (w : World) : MyI B E w (.slice none 0 0) [] := ⟨by simp, .inl ⟨rfl, rfl⟩⟩
theorem own_my {B E b : Nat} {w : World} {v : Value} {l : List Int} (h : OwnI w b v l) (hl : l.length ≤ 1099511627776) (hB : B ≤ b) (hE : b < E) : MyI B E w v l := ⟨hl, .inr ⟨b, hB, hE, h⟩⟩
/-- What a function of lists may take. -/
structure ArgI (w : World) (v : Value) (l : List Int) : Prop where
  sl : SlI w v l
  len : l.length ≤ 1048576
  ins : InI l
theorem ArgI.keep {w w' : World} {v : Value} {l : List Int} (h : ArgI w v l) (hb : Below w.heap.size w w') : ArgI w' v l := ⟨h.sl.keep hb, h.len, h.ins⟩
abbrev I64 (n : Int) : Prop := -9223372036854775808 ≤ n ∧ n ≤ 9223372036854775807
/-- k, k + 1 and so on. -/
def upto (k : Int) (n : Nat) : List Int := (List.range n).map fun i : Nat => k + (i : Int)
/-- A variable of a colouring, filled at once. -/
theorem col_var {w : World} {c : Col} {K : Value → World → Prop} (h : c.Ok) (hK : ∀ b w', w.heap.size ≤ b → b < w'.heap.size → Below w.heap.size w w' → ColAt w' (ptr b 0) c → K (ptr b 0) w') :
    Pr Try.prog (Instr.alloc tC true (.tuple #[])) w (.one .any) fun p w1 => PrU Try.prog (Instr.storeAt tC p c.val) w1 fun w2 => K p w2 :=
  allocA yC fun b w1 n1 => stA0 yC n1.at_ h.cells_len (by rw [h.cells_len]) c.cells_one fun w2 m hs hb => by
    have e1 := n1.here; have s1 := n1.size
    exact hK b w2 (by omega) (at_lt hb) (n1.below.trans (m.below (by omega) (by simp; omega))) (blk_row hb)
/-- A law's colouring, boxed. -/
theorem colL_box {w : World} {c : Col} {K : Value → World → Prop} (hK : ∀ b w', w.heap.size ≤ b → b < w'.heap.size → Below w.heap.size w w' → ColAt w' (ptr b 0) c → K (ptr b 0) w') : Pr Try.prog (Instr.box tCL c.val) w (.one .any) K :=
  box c.cells rfl fun b w' hn => hK b w' (Nat.le_of_eq hn.here.symm) (at_lt hn.at_) hn.below (row_all hn.at_)
theorem colL_all {w : World} {p : Value} {c : Col} {K : Value → Prop} (h : c.Ok) (hx : ColAt w p c) (hK : K c.val) : QSub Try.prog (Instr.loadAt tCL p) w .any K :=
  ldA yCL h.cells_len hx hK
/-- Is it nil? -/
theorem nil_I {w : World} {v : Value} {l : List Int} {ox oy : Operand} {K : Bool → Prop} (h : SlI w v l) (hK : ∀ b : Bool, (b = true → l = []) → K b) :
    QAll Try.prog (do eqGuard .eql tSI ox oy v (.slice none 0 0); binOp .eql tSI v (.slice none 0 0)) .bool K := by
  obtain ⟨a, n, c, rfl, hnc, hn, hr⟩ := h.sl
  refine ⟨a.isNone, fun w' => ?_, hK _ fun ha => ?_⟩
  · rw [Sem.run_bind, show (eqGuard .eql tSI ox oy (.slice a n c) (.slice none 0 0)).run Try.prog w' = .ok () w' from rfl]
    exact Lib.run_eql_slice_nil w' _ _ a n c 0 0 ySI.und
  · cases a with
    | some _ => cases ha
    | none =>
      rcases l with _ | ⟨x, l⟩
      · rfl
      · obtain ⟨_, _, _, _, _, he, _⟩ := hr (by simp)
        cases he
/-- A slice of two. -/
theorem twoI {w : World} {x y : Int} {K : Value → World → Prop} (hK : ∀ v w', Below w.heap.size w w' → SlI w' v [x, y] → K v w') : Pr Try.prog (Instr.buildSlice tSI 2 #[(0, .int .i64 x), (1, .int .i64 y)]) w (.one .any) K :=
  mk2 ySI rfl rfl fun b w' hn ho => hK _ w' hn.below ⟨ho.sl, by simp⟩
end Go.Proofs.Ytlbhpbaeokgmaaa

/- What the functions of lists of numbers answer, as plain statements. No condition. -/
namespace Go.Proofs.Ytlbhpbaeokgmaaa
open Go Go.RowKit Eng Mem
/-- All of l lie from lo to hi. -/
def AllIn (l : List Int) (lo hi : Int) : Prop := ∀ x ∈ l, lo ≤ x ∧ x ≤ hi
instance (l : List Int) (lo hi : Int) : Decidable (AllIn l lo hi) := by unfold AllIn; infer_instance
theorem AllIn.get {l : List Int} {lo hi : Int} (h : AllIn l lo hi) {i : Nat} (hi' : i < l.length) : lo ≤ l.getD i 0 ∧ l.getD i 0 ≤ hi := by
  have := h l[i] (List.getElem_mem hi')
  simpa [List.getD, hi'] using this
theorem allIn_of {l : List Int} {lo hi : Int} (h : ∀ i : Nat, i < l.length → lo ≤ l.getD i 0 ∧ l.getD i 0 ≤ hi) : AllIn l lo hi := by
  intro x hx
  obtain ⟨i, hi, rfl⟩ := List.getElem_of_mem hx
  have := h i hi
  simpa [List.getD, hi] using this
/-- A part: k colours, at most forty numbers, each less than k. -/
def IsPart (k : Int) (l : List Int) : Prop := 1 ≤ k ∧ k ≤ 3 ∧ l.length ≤ 40 ∧ AllIn l 0 (k - 1)
instance (k : Int) (l : List Int) : Decidable (IsPart k l) := by unfold IsPart; infer_instance
def Sizes (n k : Int) : Prop := 1 ≤ n ∧ n ≤ 17 ∧ 1 ≤ k ∧ k ≤ 4
instance (n k : Int) : Decidable (Sizes n k) := by unfold Sizes; infer_instance
end Go.Proofs.Ytlbhpbaeokgmaaa

/- Colourings made edge by edge. No condition. -/
namespace Go.Proofs.Ytlbhpbaeokgmaaa
open Go Go.RowKit Eng Mem
set_option maxRecDepth 100000
def col0 : Col := ⟨0, 0, List.replicate 136 0⟩
theorem col0_ok : col0.Ok := ⟨by simp [col0], by simp [col0], by simp [col0], by simp [col0], by simp [col0], by simp [col0]⟩
theorem build0_run (w : World) : (Instr.build tC #[]).run Try.prog w = .ok col0.val w := by kernel_rfl
theorem build2_run (n k : Int) (w : World) : (Instr.build tC #[(0, .int .i64 n), (1, .int .i64 k)]).run Try.prog w = .ok (⟨n, k, List.replicate 136 0⟩ : Col).val w := by kernel_rfl
theorem build0 {w : World} {K : Value → World → Prop} (hK : K col0.val w) : Pr Try.prog (Instr.build tC #[]) w (.one .any) K := ⟨_, w, build0_run w, hK⟩
theorem build2 {w : World} {n k : Int} {K : Value → World → Prop} (hK : K (⟨n, k, List.replicate 136 0⟩ : Col).val w) : Pr Try.prog (Instr.build tC #[(0, .int .i64 n), (1, .int .i64 k)]) w (.one .any) K := ⟨_, w, build2_run n k w, hK⟩
/-- A variable of a colouring, at a block at B or above. -/
structure CVar (B : Nat) (w : World) (p : Value) : Prop where
  ex : ∃ b l, p = ptr b 0 ∧ B ≤ b ∧ Blk w b l tC ∧ l.length = zC.length
theorem CVar.keep {B : Nat} {w w' : World} {p : Value} (h : CVar B w p) (hb : Below w.heap.size w w') : CVar B w' p := by
  obtain ⟨b, l, hp, hB, hl, hn⟩ := h
  exact ⟨b, l, hp, hB, below_at hb hl (at_lt hl), hn⟩
theorem CVar.mono {B B' : Nat} {w : World} {p : Value} (h : CVar B w p) (hb : B' ≤ B) : CVar B' w p := by
  obtain ⟨b, l, hp, hB, hl, hn⟩ := h
  exact ⟨b, l, hp, by omega, hl, hn⟩
theorem CVar.mod {B b : Nat} {w w' : World} {p : Value} (h : CVar B w p) (m : Mod [b] w w') (hne : p ≠ ptr b 0) : CVar B w' p := by
  obtain ⟨b', l, rfl, hB, hl, hn⟩ := h
  exact ⟨b', l, rfl, hB, m.at_ hl (by simp; rintro rfl; exact hne rfl), hn⟩
theorem CVar.ne {B b : Nat} {w : World} {p : Value} (h : CVar B w p) (hb : w.heap.size ≤ b) : p ≠ ptr b 0 := by
  obtain ⟨b', l, rfl, hB, hl, hn⟩ := h
  have := at_lt hl
  intro he
  injection he with he; injection he with he; injection he with he
  omega
/-- The result's variable. -/
theorem c_alloc {w : World} {K : Value → World → Prop} (hK : ∀ p w', Below w.heap.size w w' → CVar w.heap.size w' p → K p w') : Pr Try.prog (Instr.alloc tC true (.tuple #[])) w (.one .any) K :=
  allocA yC fun b w' hn => hK _ w' hn.below ⟨b, zC, rfl, by have := hn.here; omega, hn.at_, rfl⟩
/-- The result's variable is filled, and read. -/
theorem c_ret {B : Nat} {w : World} {p : Value} {c : Col} {K : Value → World → Prop} (h : c.Ok) (hv : CVar B w p) (hB : B ≤ w.heap.size) (hK : ∀ w', Below B w w' → K c.val w') :
    PrU Try.prog (Instr.storeAt tC p c.val) w fun w1 => QSub Try.prog (Instr.loadAt tC p) w1 .any fun r => K r w1 := by
  obtain ⟨b, l, rfl, hb, hl, hn⟩ := hv
  exact stA0 yC hl h.cells_len (by rw [h.cells_len, hn]) c.cells_one fun w2 m hs hb2 => ldA yC h.cells_len (blk_row hb2) (hK w2 (m.below (by omega) (by simp; omega)))
/-- The result is nothing. -/
theorem c_none {B : Nat} {w : World} {p : Value} {K : Value → World → Prop} (hv : CVar B w p) (hB : B ≤ w.heap.size) (hK : ∀ w', Below B w w' → K col0.val w') :
    Pr Try.prog (Instr.build tC #[]) w (.one .any) fun x w0 => PrU Try.prog (Instr.storeAt tC p x) w0 fun w1 => QSub Try.prog (Instr.loadAt tC p) w1 .any fun r => K r w1 :=
  build0 (c_ret col0_ok hv hB hK)

/-! ### Numbers of edges -/
theorem edgesOf_succ (j : Int) : edgesOf (j + 1) = edgesOf j + j := by
  unfold edgesOf
  rw [show (j + 1) * (j + 1 - 1) = j * (j - 1) + j * 2 from by rw [Int.add_sub_cancel, Int.add_mul, Int.mul_sub]; omega, Int.add_mul_ediv_right _ _ (by decide)]
theorem edgesOf_mono {j n : Int} (h0 : 0 ≤ j) (h : j ≤ n) : edgesOf j ≤ edgesOf n := by
  obtain ⟨d, rfl⟩ : ∃ d : Nat, n = j + d := ⟨(n - j).toNat, by omega⟩
  clear h
  induction d with
  | zero => simp
  | succ d ih =>
    have := edgesOf_succ (j + d)
    have e : (j : Int) + ((d + 1 : Nat) : Int) = j + d + 1 := by omega
    rw [e, this]
    omega
theorem edges_bd {n : Int} (h0 : 0 ≤ n) (h1 : n ≤ 17) : 0 ≤ edgesOf n ∧ edgesOf n ≤ 136 := by
  have h2 := edgesOf_mono (j := 0) (by omega) h0
  have h3 := edgesOf_mono h0 h1
  have e0 : edgesOf 0 = 0 := by decide
  have e1 : edgesOf 17 = 136 := by decide
  omega
theorem enum_eq (i j : Int) : enum i j = edgesOf j + i := rfl
theorem enum_lt {i j n : Int} (h0 : 0 ≤ i) (h1 : i < j) (h2 : j < n) (_h3 : n ≤ 17) : 0 ≤ enum i j ∧ enum i j < edgesOf n := by
  have h4 := edgesOf_mono (j := j + 1) (n := n) (by omega) (by omega)
  have h5 := edgesOf_succ j
  have h6 := edgesOf_mono (j := 0) (n := j) (by omega) (by omega)
  have e0 : edgesOf 0 = 0 := by decide
  rw [enum_eq]
  omega
/-- The number of the edge of two points. -/
def num (i j : Int) : Int := if i < j then enum i j else enum j i
theorem num_lt {i j n : Int} (h0 : 0 ≤ i) (h1 : i < n) (k0 : 0 ≤ j) (k1 : j < n) (hn : n ≤ 17) (hne : i ≠ j) : 0 ≤ num i j ∧ num i j < edgesOf n := by
  unfold num
  split
  · exact enum_lt h0 (by omega) k1 hn
  · exact enum_lt k0 (by omega) h1 hn
theorem num_of {i j : Int} (h : i < j) : num i j = enum i j := if_pos h
theorem wnum {i j : Int} (h0 : 0 ≤ i) (h1 : i ≤ 17) (k0 : 0 ≤ j) (k1 : j ≤ 17) : IntKind.i64.wrap (IntKind.i64.wrap (Int.tdiv (IntKind.i64.wrap (j * IntKind.i64.wrap (j - 1))) 2) + i) = enum i j := by
  rw [wedges k0 k1, enum_eq]
  have := edges_bd k0 k1
  exact wrap_small (by omega) (by omega)

/-! ### Colourings by a function of the edge's number -/
def esF (f : Nat → Int) (m : Nat) : List Int := (List.range 136).map fun e => if e < m then f e else 0
theorem esF_len (f : Nat → Int) (m : Nat) : (esF f m).length = 136 := by simp [esF]
theorem esF_0 (f : Nat → Int) : esF f 0 = List.replicate 136 0 := by
  apply List.ext_getElem
  · simp [esF]
  · intro i h1 h2; rw [List.getElem_replicate]; simp [esF]
theorem esF_set (f : Nat → Int) {m : Nat} (h : m < 136) : (esF f m).set m (f m) = esF f (m + 1) := by
  apply List.ext_getElem?
  intro i
  by_cases hi : i = m
  · subst hi
    rw [List.getElem?_set_self (by rw [esF_len]; exact h)]
    simp [esF, h]
  · rw [List.getElem?_set_ne (Ne.symm hi)]
    by_cases h2 : i < 136
    · simp only [esF, List.getElem?_map, List.getElem?_range h2, Option.map_some]
      congr 1
      by_cases h3 : i < m
      · rw [if_pos h3, if_pos (by omega)]
      · rw [if_neg h3, if_neg (by omega)]
    · rw [List.getElem?_eq_none (by rw [esF_len]; omega), List.getElem?_eq_none (by rw [esF_len]; omega)]
theorem esF_congr {f g : Nat → Int} {m : Nat} (h : ∀ e, e < m → f e = g e) : esF f m = esF g m := by
  unfold esF
  apply List.map_congr_left
  intro e _
  by_cases he : e < m
  · rw [if_pos he, if_pos he, h e he]
  · rw [if_neg he, if_neg he]
theorem esF_e (f : Nat → Int) (m : Nat) (n k : Int) (i : Nat) (hi : i < 136) : (⟨n, k, esF f m⟩ : Col).e i = if i < m then f i else 0 := by
  simp [Col.e, esF, hi]
def colF (n k : Int) (f : Nat → Int) : Col := ⟨n, k, esF f (edgesOf n).toNat⟩
theorem esF_byte {f : Nat → Int} {m : Nat} (h : ∀ e, e < m → 0 ≤ f e ∧ f e < 256) : ∀ x ∈ esF f m, 0 ≤ x ∧ x < 256 := by
  intro x hx
  obtain ⟨e, _, rfl⟩ := List.mem_map.1 hx
  by_cases he : e < m
  · simp only [he, if_true]; exact h e he
  · simp only [he, if_false]; omega
theorem colF_ok {n k : Int} {f : Nat → Int} (hn : I64 n) (hk : I64 k) (h : ∀ e, e < (edgesOf n).toNat → 0 ≤ f e ∧ f e < 256) : (colF n k f).Ok :=
  ⟨esF_len _ _, esF_byte h, hn.1, hn.2, hk.1, hk.2⟩
theorem colF_congr {n k : Int} {f g : Nat → Int} (h : ∀ e, e < (edgesOf n).toNat → f e = g e) : colF n k f = colF n k g := by unfold colF; rw [esF_congr h]
/-- A colouring being made: in block b. -/
abbrev BlkC (w : World) (b : Nat) (c : Col) : Prop := Blk w b c.cells tC
/-- An edge of a colouring in an own block is given a colour. -/
theorem put_e {w : World} {b : Nat} {n k x : Int} {es : List Int} {ik : IntKind} {i : Int} {K : World → Prop} (h : BlkC w b ⟨n, k, es⟩) (hl : es.length = 136) (h0 : 0 ≤ i) (h1 : i < 136)
    (hK : ∀ w', Mod [b] w w' → w'.heap.size = w.heap.size → BlkC w' b ⟨n, k, es.set i.toNat x⟩ → K w') :
    QAll Try.prog (Instr.indexAt tA (ptr b 2) (.int ik i)) .any fun p => PrU Try.prog (Instr.storeAt tB p (.int .u8 x)) w K := by
  refine ixRp yR h0 h1 (st yB h (by simp [Col.cells, hl]; omega) rfl fun w' m hs hb => hK w' m hs ?_)
  have : (⟨n, k, es⟩ : Col).cells.set (2 + i.toNat) (.int .u8 x) = (⟨n, k, es.set i.toNat x⟩ : Col).cells := by
    simp [Col.cells, Nat.add_comm 2, List.map_set]
  rw [this] at hb
  exact hb
theorem int_u8 {n : Int} {K : Int → Prop} (h0 : 0 ≤ n) (h1 : n < 256) (hK : K n) : QAll Try.prog (convert tI tB (.int .i64 n)) (.int .u8) K :=
  cvt (by rw [Try.underlyingTI]; rfl) Try.underlyingTB (by rwa [wrap_u8 h0 h1])
/-- A slice of an array: its first n places. -/
theorem slR {w : World} {p : Value} {vs : List Value} {ik : IntKind} {n : Int} {K : Value → Prop} (hp : Row w p vs) (hl : vs.length = 136) (h0 : 0 ≤ n) (h1 : n ≤ 136)
    (hK : ∀ v, (∀ w', Row w' p vs → Sl w' v 1 (vs.take n.toNat)) → K v) : QAll Try.prog (Instr.sliceAt tA p none (some (.int ik n)) none) .any K := by
  obtain ⟨a, rfl⟩ := hp.isPtr
  refine ⟨.slice (some a) n.toNat 136, fun w' => ?_, hK _ fun w' hr => ⟨some a, n.toNat, 136, rfl, by omega, by simp [hl]; omega, fun _ => ?_⟩⟩
  · have hs : (Try.prog.info? tB).map (·.size) = some 1 := yB.size
    have hle : n.toNat ≤ 136 := by omega
    unfold Instr.sliceAt
    simp [run_underlying Try.underlyingTA, Instr.sureAddr, Instr.sliceBounds, Instr.sliceBound, asIntOf, sizeOf_run hs, h0, h1]
    rfl
  · obtain ⟨b, off, cs, e, fz, hp, ha, hg⟩ := hr
    exact ⟨b, off, cs, e, fz, hp, ha, fun i hi => by
      simp only [List.length_take] at hi
      rw [hg i (by omega), List.getElem?_take_of_lt (by omega)]⟩
end Go.Proofs.Ytlbhpbaeokgmaaa

/- More rules for the laws: variables of colourings, strings. No condition. -/
namespace Go.Proofs.Ytlbhpbaeokgmaaa
open Go Go.RowKit Eng Mem
set_option maxRecDepth 100000
theorem col_new {w : World} {K : Value → World → Prop} (hK : ∀ b w', w.heap.size ≤ b → b < w'.heap.size → Below w.heap.size w w' → Blk w' b zC tC → K (ptr b 0) w') : Pr Try.prog (Instr.alloc tC true (.tuple #[])) w (.one .any) K :=
  allocA yC fun b w' hn => hK _ w' (Nat.le_of_eq hn.here.symm) (at_lt hn.at_) hn.below hn.at_
theorem col_put {w : World} {b : Nat} {c : Col} {K : World → Prop} (hb : Blk w b zC tC) (h : c.Ok) (hK : ∀ w', Mod [b] w w' → w'.heap.size = w.heap.size → ColAt w' (ptr b 0) c → K w') : PrU Try.prog (Instr.storeAt tC (ptr b 0) c.val) w K :=
  stA0 yC hb h.cells_len (by rw [h.cells_len]) c.cells_one fun w2 m hs hb2 => hK w2 m hs (blk_row hb2)
end Go.Proofs.Ytlbhpbaeokgmaaa

/- The neighbour bound, as a plain function of lists. No condition. -/
namespace Go.Proofs.Ytlbhpbaeokgmaaa
open Go Go.RowKit Eng Mem
set_option linter.unusedVariables false
set_option maxRecDepth 100000
def bigL (l : List Int) : List Int := l.filter fun x => decide (2 < x)
def degL2 (l : List Int) : Nat := (l.map fun x => (x - 2).toNat).sum
/-- With each number above two made less by one, in turn. -/
def decs : List Int → List (List Int)
  | [] => []
  | x :: l => (if 2 < x then [(x - 1) :: l] else []) ++ (decs l).map (x :: ·)
def nbF : Nat → List Int → Int
  | 0, _ => 0
  | f + 1, l => if 1 ∈ l then 1 else if (bigL l).length = 0 then 2 else if (bigL l).length = 1 then (bigL l).headD 0 else
      ((decs l).map (nbF f)).sum + 2 - ((bigL l).length : Int) - (if (bigL l).length = 2 ∧ ((decs l).map fun d => nbF f d % 2).sum = 0 then 1 else 0)
def nb (l : List Int) : Int := nbF (degL2 l + 1) l
theorem decs_deg : ∀ {l d : List Int}, d ∈ decs l → degL2 d + 1 = degL2 l ∧ d.length = l.length
  | [], d, h => by cases h
  | x :: l, d, h => by
    simp only [decs, List.mem_append, List.mem_map] at h
    rcases h with h | ⟨e, he, rfl⟩
    · split at h
      · have : d = (x - 1) :: l := by simpa using h
        subst this
        refine ⟨?_, by simp⟩
        simp only [degL2, List.map_cons, List.sum_cons]
        omega
      · cases h
    · have := decs_deg he
      refine ⟨?_, by simp [this.2]⟩
      have := this.1
      simp only [degL2, List.map_cons, List.sum_cons] at this ⊢
      omega
theorem decs_one : ∀ {l d : List Int}, 1 ∉ l → d ∈ decs l → 1 ∉ d
  | [], d, _, h => by cases h
  | x :: l, d, h1, h => by
    simp only [List.mem_cons, not_or] at h1
    simp only [decs, List.mem_append, List.mem_map] at h
    rcases h with h | ⟨e, he, rfl⟩
    · split at h
      · have : d = (x - 1) :: l := by simpa using h
        subst this
        simp only [List.mem_cons, not_or]
        exact ⟨by omega, h1.2⟩
      · cases h
    · simp only [List.mem_cons, not_or]
      exact ⟨h1.1, decs_one h1.2 he⟩
theorem decs_bd {lo hi : Int} : ∀ {l d : List Int}, lo ≤ 2 → (∀ x ∈ l, lo ≤ x ∧ x ≤ hi) → d ∈ decs l → ∀ x ∈ d, lo ≤ x ∧ x ≤ hi
  | [], d, _, _, h => by cases h
  | y :: l, d, h2, hb, h => by
    simp only [decs, List.mem_append, List.mem_map] at h
    have hy := hb y (by simp)
    rcases h with h | ⟨e, he, rfl⟩
    · split at h
      · have : d = (y - 1) :: l := by simpa using h
        subst this
        intro x hx
        rcases List.mem_cons.1 hx with rfl | hx
        · omega
        · exact hb x (by simp [hx])
      · cases h
    · intro x hx
      rcases List.mem_cons.1 hx with rfl | hx
      · exact hy
      · exact decs_bd h2 (fun z hz => hb z (by simp [hz])) he x hx
theorem decs_len : ∀ l : List Int, (decs l).length = (bigL l).length
  | [] => rfl
  | x :: l => by
    have := decs_len l
    unfold bigL at this ⊢
    simp only [decs, List.length_append, List.length_map]
    by_cases h : 2 < x
    · rw [if_pos h, List.filter_cons_of_pos (by simpa using h)]; simp; omega
    · rw [if_neg h, List.filter_cons_of_neg (by simpa using h)]; simp; omega
theorem sum_congr' {α : Type} {f g : α → Int} : ∀ {l : List α}, (∀ x ∈ l, f x = g x) → (l.map f).sum = (l.map g).sum
  | [], _ => rfl
  | x :: l, h => by
    simp only [List.map_cons, List.sum_cons]
    rw [h x (by simp), sum_congr' fun y hy => h y (by simp [hy])]
theorem sum_le' {α : Type} {f : α → Int} {B : Int} : ∀ {l : List α}, (∀ x ∈ l, f x ≤ B) → (l.map f).sum ≤ l.length * B
  | [], _ => by simp
  | x :: l, h => by
    have h1 := h x (by simp)
    have h2 := sum_le' (l := l) fun y hy => h y (by simp [hy])
    simp only [List.map_cons, List.sum_cons, List.length_cons]
    rw [show ((l.length + 1 : Nat) : Int) = (l.length : Int) + 1 from by omega, Int.add_mul, Int.one_mul]
    omega
theorem le_sum' {α : Type} {f : α → Int} {B : Int} : ∀ {l : List α}, (∀ x ∈ l, B ≤ f x) → l.length * B ≤ (l.map f).sum
  | [], _ => by simp
  | x :: l, h => by
    have h1 := h x (by simp)
    have h2 := le_sum' (l := l) fun y hy => h y (by simp [hy])
    simp only [List.map_cons, List.sum_cons, List.length_cons]
    rw [show ((l.length + 1 : Nat) : Int) = (l.length : Int) + 1 from by omega, Int.add_mul, Int.one_mul]
    omega
/-! ### What the function does not see -/
def Inv (F : List Int → Int) : Prop := ∀ a b, 1 ∉ a → 1 ∉ b → (bigL a).Perm (bigL b) → F a = F b
theorem big_idem (l : List Int) : bigL (bigL l) = bigL l := by unfold bigL; rw [List.filter_filter]; simp
theorem big_one {l : List Int} (h : 1 ∉ l) : 1 ∉ bigL l := fun hm => h ((List.mem_filter.1 hm).1)
theorem big_cons_pos {x : Int} {l : List Int} (h : 2 < x) : bigL (x :: l) = x :: bigL l := by unfold bigL; rw [List.filter_cons_of_pos (by simpa using h)]
theorem big_cons_neg {x : Int} {l : List Int} (h : ¬ 2 < x) : bigL (x :: l) = bigL l := by unfold bigL; rw [List.filter_cons_of_neg (by simpa using h)]
theorem big_cons_perm (x : Int) {a b : List Int} (h : (bigL a).Perm (bigL b)) : (bigL (x :: a)).Perm (bigL (x :: b)) := by
  by_cases hx : 2 < x
  · rw [big_cons_pos hx, big_cons_pos hx]; exact h.cons x
  · rw [big_cons_neg hx, big_cons_neg hx]; exact h
theorem Inv.cons {F : List Int → Int} (h : Inv F) {x : Int} (hx : x ≠ 1) : Inv fun l => F (x :: l) := fun a b ha hb hp =>
  h _ _ (by simp only [List.mem_cons, not_or]; exact ⟨fun e => hx e.symm, ha⟩) (by simp only [List.mem_cons, not_or]; exact ⟨fun e => hx e.symm, hb⟩) (big_cons_perm x hp)
theorem sum_big : ∀ {l : List Int} {F : List Int → Int}, Inv F → 1 ∉ l → ((decs l).map F).sum = ((decs (bigL l)).map F).sum
  | [], F, _, _ => rfl
  | x :: l, F, hF, h1 => by
    simp only [List.mem_cons, not_or] at h1
    by_cases hx : 2 < x
    · have ih := sum_big (hF.cons (x := x) (by omega)) h1.2
      rw [big_cons_pos hx]
      simp only [decs, if_pos hx, List.map_append, List.map_map, List.sum_append, List.map_cons, List.map_nil, List.sum_cons, List.sum_nil]
      have e : F ((x - 1) :: l) = F ((x - 1) :: bigL l) := hF _ _ (by simp only [List.mem_cons, not_or]; exact ⟨by omega, h1.2⟩) (by simp only [List.mem_cons, not_or]; exact ⟨by omega, big_one h1.2⟩) (big_cons_perm _ (by rw [big_idem]))
      rw [e]
      congr 1
    · have ih := sum_big (hF.cons (x := x) (fun e => h1.1 e.symm)) h1.2
      rw [big_cons_neg hx]
      simp only [decs, if_neg hx, List.nil_append, List.map_map]
      have e : ((decs (bigL l)).map fun d => F (x :: d)).sum = ((decs (bigL l)).map F).sum := sum_congr' fun d hd => by
        have := decs_one (big_one h1.2) hd
        exact hF _ _ (by simp only [List.mem_cons, not_or]; exact ⟨h1.1, this⟩) this (by rw [big_cons_neg hx])
      rw [← e, ← ih]
      rfl
theorem sum_perm {r s : List Int} (hp : r.Perm s) : ∀ {F : List Int → Int}, Inv F → 1 ∉ r → ((decs r).map F).sum = ((decs s).map F).sum := by
  induction hp with
  | nil => intro F _ _; rfl
  | @cons x a b hp ih =>
    intro F hF h1
    simp only [List.mem_cons, not_or] at h1
    have h2 := ih (hF.cons (x := x) (fun e => h1.1 e.symm)) h1.2
    simp only [decs, List.map_append, List.map_map, List.sum_append]
    congr 1
    by_cases hx : 2 < x
    · simp only [if_pos hx, List.map_cons, List.map_nil, List.sum_cons, List.sum_nil]
      rw [hF ((x - 1) :: a) ((x - 1) :: b) (by simp only [List.mem_cons, not_or]; exact ⟨by omega, h1.2⟩) (by simp only [List.mem_cons, not_or]; exact ⟨by omega, fun h => h1.2 (hp.mem_iff.2 h)⟩) (big_cons_perm _ (hp.filter _))]
    · simp only [if_neg hx]
  | swap x y a =>
    intro F hF h1
    simp only [List.mem_cons, not_or] at h1
    obtain ⟨hy, hx, ha⟩ := h1
    have sw : ∀ {p q : Int} {t : List Int}, p ≠ 1 → q ≠ 1 → 1 ∉ t → F (p :: q :: t) = F (q :: p :: t) := fun {p q t} hp hq ht =>
      hF _ _ (by simp only [List.mem_cons, not_or]; exact ⟨fun e => hp e.symm, fun e => hq e.symm, ht⟩) (by simp only [List.mem_cons, not_or]; exact ⟨fun e => hq e.symm, fun e => hp e.symm, ht⟩) ((List.Perm.swap q p t).filter _)
    have e : ((decs a).map fun d => F (y :: x :: d)).sum = ((decs a).map fun d => F (x :: y :: d)).sum := sum_congr' fun d hd => sw (fun e => hy e.symm) (fun e => hx e.symm) (decs_one ha hd)
    simp only [decs, List.map_append, List.map_map, List.sum_append]
    by_cases h2 : 2 < x <;> by_cases h3 : 2 < y
    · simp only [if_pos h2, if_pos h3, List.map_cons, List.map_nil, List.sum_cons, List.sum_nil, Function.comp]
      rw [sw (p := y - 1) (q := x) (by omega) (by omega) ha, sw (p := y) (q := x - 1) (by omega) (by omega) ha]
      have e : ((decs a).map ((F ∘ fun z => y :: z) ∘ fun z => x :: z)).sum = ((decs a).map ((F ∘ fun z => x :: z) ∘ fun z => y :: z)).sum := e
      simp only [Function.comp_def] at e ⊢
      omega
    · simp only [if_pos h2, if_neg h3, List.map_cons, List.map_nil, List.sum_cons, List.sum_nil, Function.comp_def]
      rw [sw (p := y) (q := x - 1) (fun e => hy e.symm) (by omega) ha]
      omega
    · simp only [if_neg h2, if_pos h3, List.map_cons, List.map_nil, List.sum_cons, List.sum_nil, Function.comp_def]
      rw [sw (p := y - 1) (q := x) (by omega) (fun e => hx e.symm) ha]
      omega
    · simp only [if_neg h2, if_neg h3, List.map_nil, List.sum_nil, Function.comp_def]
      omega
  | trans hp hq ih1 ih2 =>
    intro F hF h1
    rw [ih1 hF h1, ih2 hF fun h => h1 (hp.mem_iff.2 h)]
theorem sum_inv {F : List Int → Int} (hF : Inv F) {a b : List Int} (ha : 1 ∉ a) (hb : 1 ∉ b) (hp : (bigL a).Perm (bigL b)) : ((decs a).map F).sum = ((decs b).map F).sum := by
  rw [sum_big hF ha, sum_big hF hb, sum_perm hp hF (big_one ha)]
theorem nbF_inv : ∀ f : Nat, Inv (nbF f)
  | 0 => fun _ _ _ _ _ => rfl
  | f + 1 => fun a b ha hb hp => by
    have ih := nbF_inv f
    have hl := hp.length_eq
    unfold nbF
    rw [if_neg ha, if_neg hb, hl]
    split
    · rfl
    · split
      · rename_i h1
        match h : bigL b, h1 with
        | [y], _ => rw [h] at hp; rw [List.perm_singleton.1 hp]
      · have e1 := sum_inv ih ha hb hp
        have e2 := sum_inv (F := fun d => nbF f d % 2) (fun x y hx hy hp => by show nbF f x % 2 = nbF f y % 2; rw [ih x y hx hy hp]) ha hb hp
        rw [e1, e2]
theorem big_deg : ∀ l : List Int, degL2 (bigL l) = degL2 l
  | [] => rfl
  | x :: l => by
    have := big_deg l
    by_cases h : 2 < x
    · rw [big_cons_pos h]; unfold degL2 at this ⊢; simp only [List.map_cons, List.sum_cons]; omega
    · rw [big_cons_neg h]; unfold degL2 at this ⊢; simp only [List.map_cons, List.sum_cons]; omega
theorem deg_perm {a b : List Int} (h : (bigL a).Perm (bigL b)) : degL2 a = degL2 b := by
  rw [← big_deg a, ← big_deg b]
  exact (h.map _).sum_nat
theorem nb_inv {a b : List Int} (ha : 1 ∉ a) (hb : 1 ∉ b) (h : (bigL a).Perm (bigL b)) : nb a = nb b := by
  unfold nb; rw [deg_perm h]; exact nbF_inv _ a b ha hb h
/-! ### Its equations -/
theorem nb_one {l : List Int} (h : 1 ∈ l) : nb l = 1 := by unfold nb nbF; rw [if_pos h]
theorem nb_none {l : List Int} (h : 1 ∉ l) (hl : (bigL l).length = 0) : nb l = 2 := by unfold nb nbF; rw [if_neg h, if_pos hl]
theorem nb_single {l : List Int} (h : 1 ∉ l) (hl : (bigL l).length = 1) : nb l = (bigL l).headD 0 := by unfold nb nbF; rw [if_neg h, if_neg (by omega), if_pos hl]
theorem nb_sum {l : List Int} (h : 1 ∉ l) (hl : 2 ≤ (bigL l).length) : nb l = ((decs l).map nb).sum + 2 - ((bigL l).length : Int) - (if (bigL l).length = 2 ∧ ((decs l).map fun d => nb d % 2).sum = 0 then 1 else 0) := by
  have e : ∀ d ∈ decs l, nbF (degL2 l) d = nb d := fun d hd => by unfold nb; rw [(decs_deg hd).1]
  have h1 : ((decs l).map (nbF (degL2 l))).sum = ((decs l).map nb).sum := sum_congr' e
  have h2 : ((decs l).map fun d => nbF (degL2 l) d % 2).sum = ((decs l).map fun d => nb d % 2).sum := sum_congr' fun d hd => by rw [e d hd]
  conv => lhs; unfold nb nbF
  rw [if_neg h, if_neg (by omega), if_neg (by omega), h1, h2]
theorem nb_perm {a b : List Int} (h : a.Perm b) : nb a = nb b := by
  by_cases h1 : 1 ∈ a
  · rw [nb_one h1, nb_one (h.mem_iff.1 h1)]
  · exact nb_inv h1 (fun h2 => h1 (h.mem_iff.2 h2)) (h.filter _)
theorem nb_big {l : List Int} (h : 1 ∉ l) : nb l = nb (bigL l) := nb_inv h (big_one h) (by rw [big_idem])
/-! ### Its bounds -/
theorem nb_pos : ∀ (n : Nat) (l : List Int), degL2 l = n → 1 ≤ nb l := by
  intro n
  induction n with
  | zero =>
    intro l hl
    by_cases h1 : 1 ∈ l
    · rw [nb_one h1]; exact Int.le_refl _
    · have : (bigL l).length = 0 := by
        rw [← decs_len]
        rcases h : decs l with _ | ⟨d, _⟩
        · rfl
        · have := (decs_deg (l := l) (d := d) (by rw [h]; simp)).1; omega
      rw [nb_none h1 this]; omega
  | succ n ih =>
    intro l hl
    by_cases h1 : 1 ∈ l
    · rw [nb_one h1]; exact Int.le_refl _
    by_cases h0 : (bigL l).length = 0
    · rw [nb_none h1 h0]; omega
    by_cases hs : (bigL l).length = 1
    · rw [nb_single h1 hs]
      match h : bigL l, hs with
      | [x], _ =>
        have : x ∈ bigL l := by rw [h]; simp
        have := (List.mem_filter.1 this).2
        simp at this ⊢; omega
    rw [nb_sum h1 (by omega)]
    have hd : ∀ d ∈ decs l, 1 ≤ nb d := fun d hd => ih d (by have := (decs_deg hd).1; omega)
    have := le_sum' hd
    rw [decs_len] at this
    split <;> omega
theorem nb_ge (l : List Int) : 1 ≤ nb l := nb_pos _ l rfl
theorem nb_le {c : Nat} (hc : 1 ≤ c) : ∀ (n : Nat) (l : List Int), degL2 l = n → l.length ≤ c → (∀ x ∈ l, x ≤ 8) → nb l ≤ 8 * (c : Int) ^ n := by
  intro n
  induction n with
  | zero =>
    intro l hl hlen h8
    by_cases h1 : 1 ∈ l
    · rw [nb_one h1]; simp
    · have : (bigL l).length = 0 := by
        rw [← decs_len]
        rcases h : decs l with _ | ⟨d, _⟩
        · rfl
        · have := (decs_deg (l := l) (d := d) (by rw [h]; simp)).1; omega
      rw [nb_none h1 this]; simp
  | succ n ih =>
    intro l hl hlen h8
    have hp : 1 ≤ (c : Int) ^ (n + 1) := by
      have := Nat.one_le_pow (n + 1) c (by omega)
      exact_mod_cast this
    by_cases h1 : 1 ∈ l
    · rw [nb_one h1]; omega
    by_cases h0 : (bigL l).length = 0
    · rw [nb_none h1 h0]; omega
    by_cases hs : (bigL l).length = 1
    · rw [nb_single h1 hs]
      match h : bigL l, hs with
      | [x], _ =>
        have hx : x ∈ bigL l := by rw [h]; simp
        have := h8 x (List.mem_filter.1 hx).1
        simp; omega
    rw [nb_sum h1 (by omega)]
    have hd : ∀ d ∈ decs l, nb d ≤ 8 * (c : Int) ^ n := fun d hd => ih d (by have := (decs_deg hd).1; omega) (by have := (decs_deg hd).2; omega) fun x hx => by
      have hlo : ∃ lo : Int, lo ≤ 2 ∧ ∀ x ∈ l, lo ≤ x := by
        refine ⟨(l.foldl min 2), ?_, ?_⟩
        · clear hlen h8 hl h1 h0 hs hd ih hx hp
          have : ∀ (l : List Int) (a : Int), l.foldl min a ≤ a := by
            intro l
            induction l with
            | nil => intro a; exact Int.le_refl _
            | cons y t ih => intro a; exact Int.le_trans (ih _) (Int.min_le_left _ _)
          exact this l 2
        · have : ∀ (l : List Int) (a x : Int), x ∈ l → l.foldl min a ≤ x := by
            have le : ∀ (l : List Int) (a : Int), l.foldl min a ≤ a := by
              intro l
              induction l with
              | nil => intro a; exact Int.le_refl _
              | cons y t ih => intro a; exact Int.le_trans (ih _) (Int.min_le_left _ _)
            intro l
            induction l with
            | nil => intro a x hx; cases hx
            | cons y t ih =>
              intro a x hx
              rcases List.mem_cons.1 hx with rfl | hx
              · exact Int.le_trans (le t _) (Int.min_le_right _ _)
              · exact ih _ x hx
          exact fun x hx => this l 2 x hx
      obtain ⟨lo, hlo, hl⟩ := hlo
      exact (decs_bd hlo (fun x hx => ⟨hl x hx, h8 x hx⟩) hd x hx).2
    have hsum := sum_le' hd
    rw [decs_len] at hsum
    have hbl : (bigL l).length ≤ c := Nat.le_trans (List.length_filter_le _ _) hlen
    have hmul : ((bigL l).length : Int) * (8 * (c : Int) ^ n) ≤ (c : Int) * (8 * (c : Int) ^ n) := Int.mul_le_mul_of_nonneg_right (by omega) (by
      have := Nat.zero_le (c ^ n)
      have : 0 ≤ (c : Int) ^ n := by exact_mod_cast this
      omega)
    have e : (c : Int) * (8 * (c : Int) ^ n) = 8 * (c : Int) ^ (n + 1) := by rw [Int.pow_succ, Int.mul_comm ((c : Int) ^ n), ← Int.mul_assoc, ← Int.mul_assoc, Int.mul_comm (c : Int) 8]
    rw [e] at hmul
    split <;> omega
theorem deg_le : ∀ {l : List Int}, (∀ x ∈ l, x ≤ 8) → degL2 l ≤ 6 * l.length
  | [], _ => by simp [degL2]
  | x :: l, h => by
    have := deg_le (l := l) fun y hy => h y (by simp [hy])
    have := h x (by simp)
    simp only [degL2, List.map_cons, List.sum_cons, List.length_cons] at this ⊢
    unfold degL2 at *
    omega
theorem nb_four {l : List Int} (hl : l.length ≤ 4) (h8 : ∀ x ∈ l, x ≤ 8) : nb l ≤ 2251799813685248 := by
  have h := nb_le (c := 4) (by omega) _ l rfl hl h8
  have hd := deg_le h8
  have : (4 : Nat) ^ degL2 l ≤ 4 ^ 24 := Nat.pow_le_pow_right (by omega) (by omega)
  have e : (4 : Nat) ^ 24 = 281474976710656 := by decide
  rw [e] at this
  have e2 : ((4 : Nat) : Int) ^ degL2 l = ((4 ^ degL2 l : Nat) : Int) := (Int.natCast_pow 4 (degL2 l)).symm
  rw [e2] at h
  omega
theorem nb_two {l : List Int} (hl : l.length ≤ 2) (h8 : ∀ x ∈ l, x ≤ 8) : nb l ≤ 32768 := by
  have h := nb_le (c := 2) (by omega) _ l rfl hl h8
  have hd := deg_le h8
  have : (2 : Nat) ^ degL2 l ≤ 2 ^ 12 := Nat.pow_le_pow_right (by omega) (by omega)
  have e : (2 : Nat) ^ 12 = 4096 := by decide
  rw [e] at this
  have e2 : ((2 : Nat) : Int) ^ degL2 l = ((2 ^ degL2 l : Nat) : Int) := (Int.natCast_pow 2 (degL2 l)).symm
  rw [e2] at h
  omega
/-! ### Sums that stop at a bound -/
/-- The bound that sums stop at. -/
abbrev capN : Int := 1000000001
def satF (C s : Int) (ns : List Int) : Int := ns.foldl (fun s t => min (s + t) C) s
theorem sat_eq {C : Int} (hC : 2 ≤ C) : ∀ (ns : List Int) (s : Int), s ≤ C → (ns = [] ∨ 1 ≤ s + ns.length) → (∀ n ∈ ns, 1 ≤ n) → satF C s (ns.map fun n => min n C) = min (s + ns.sum) C
  | [], s, hs, _, _ => by show s = min (s + 0) C; omega
  | n :: r, s, hs, hl, hp => by
    have hn := hp n (by simp)
    have hl : 1 ≤ s + ((r.length : Int) + 1) := by
      rcases hl with h | h
      · cases h
      · simp only [List.length_cons] at h; omega
    have ih := sat_eq hC r (min (s + min n C) C) (Int.min_le_right _ _) (by
      by_cases hr : r = []
      · exact .inl hr
      · refine .inr ?_
        have : 1 ≤ (r.length : Int) := by
          have := List.length_pos_iff.2 hr; omega
        omega) (fun x hx => hp x (by simp [hx]))
    simp only [satF, List.map_cons, List.foldl_cons] at ih ⊢
    rw [ih]
    have hr : (r.length : Int) * 1 ≤ (r.map id).sum := le_sum' fun x hx => hp x (by simp [hx])
    rw [List.map_id] at hr
    simp only [List.sum_cons]
    omega
theorem sat_append (C s : Int) (a b : List Int) : satF C s (a ++ b) = satF C (satF C s a) b := List.foldl_append
/-! ### The places of what is made less -/
def lessAt (l : List Int) (i : Nat) : List Int := l.set i (l.getD i 0 - 1)
theorem decs_sets : ∀ l : List Int, decs l = ((List.range l.length).filter fun i => decide (2 < l.getD i 0)).map (lessAt l)
  | [] => rfl
  | x :: l => by
    have ih := decs_sets l
    rw [List.length_cons, List.range_succ_eq_map, List.filter_cons]
    have e : ((List.range l.length).map Nat.succ).filter (fun i => decide (2 < (x :: l).getD i 0)) = (((List.range l.length).filter fun i => decide (2 < l.getD i 0))).map Nat.succ := by
      rw [List.filter_map]
      rfl
    rw [e]
    simp only [decs]
    rw [ih]
    by_cases h : 2 < x
    · rw [if_pos h, if_pos (by simpa using h)]
      simp only [List.map_cons, List.map_map, List.singleton_append, lessAt]
      congr 1
    · rw [if_neg h, if_neg (by simpa using h)]
      simp only [List.map_map, List.nil_append]
      congr 1
theorem decs_all {r : List Int} (h : ∀ x ∈ r, 2 < x) : decs r = (List.range r.length).map (lessAt r) := by
  rw [decs_sets, List.filter_eq_self.2]
  intro i hi
  have hi := List.mem_range.1 hi
  simp only [List.getD_eq_getElem?_getD, List.getElem?_eq_getElem hi, Option.getD_some, decide_eq_true_eq]
  exact h _ (List.getElem_mem hi)
theorem big_all (l : List Int) : ∀ x ∈ bigL l, 2 < x := fun x hx => by have := (List.mem_filter.1 hx).2; simpa using this
theorem big_snoc (l : List Int) (x : Int) : bigL (l ++ [x]) = bigL l ++ (if 2 < x then [x] else []) := by
  unfold bigL
  rw [List.filter_append]
  by_cases h : 2 < x
  · rw [if_pos h, List.filter_cons_of_pos (by simpa using h)]; rfl
  · rw [if_neg h, List.filter_cons_of_neg (by simpa using h)]; rfl
theorem less_bd {l : List Int} {i : Nat} (hi : i < l.length) (h : ∀ x ∈ l, 1 ≤ x ∧ x ≤ 8) (h2 : 2 < l.getD i 0) : ∀ x ∈ lessAt l i, 1 ≤ x ∧ x ≤ 8 := by
  intro x hx
  unfold lessAt at hx
  rcases List.mem_or_eq_of_mem_set hx with hx | rfl
  · exact h x hx
  · have := h l[i] (List.getElem_mem hi)
    rw [List.getD_eq_getElem?_getD, List.getElem?_eq_getElem hi] at h2 ⊢
    simp only [Option.getD_some] at h2 ⊢
    omega
theorem less_len (l : List Int) (i : Nat) : (lessAt l i).length = l.length := by simp [lessAt]
theorem sat_bd {C : Int} : ∀ (ns : List Int) (s : Int), s ≤ C → (∀ n ∈ ns, 0 ≤ n) → s ≤ satF C s ns ∧ satF C s ns ≤ C
  | [], s, hs, _ => ⟨Int.le_refl _, hs⟩
  | n :: r, s, hs, hp => by
    have hn := hp n (by simp)
    have ih := sat_bd r (min (s + n) C) (Int.min_le_right _ _) fun x hx => hp x (by simp [hx])
    simp only [satF, List.foldl_cons] at ih ⊢
    omega
/-! ### Numbers of lists of digits -/
def cdI (l : List Int) : Int := l.foldl (fun c x => c * 9 + x) 0
theorem cd_snoc (l : List Int) (x : Int) : cdI (l ++ [x]) = cdI l * 9 + x := by simp [cdI, List.foldl_append]
def Dig (l : List Int) : Prop := ∀ x ∈ l, 0 ≤ x ∧ x ≤ 8
theorem pow9 (n : Nat) : 1 ≤ (9 : Int) ^ n := by
  have h := Nat.one_le_pow n 9 (by omega)
  have e : ((9 ^ n : Nat) : Int) = (9 : Int) ^ n := Int.natCast_pow 9 n
  omega
theorem cd_bd : ∀ (n : Nat) (l : List Int), l.length = n → Dig l → 0 ≤ cdI l ∧ cdI l < 9 ^ n := by
  intro n
  induction n with
  | zero => intro l hl _; rw [List.eq_nil_of_length_eq_zero hl]; simp [cdI]
  | succ n ih =>
    intro l hl hd
    obtain ⟨a, x, rfl⟩ : ∃ a x, l = a ++ [x] := ⟨l.dropLast, l.getLast (by intro e; rw [e] at hl; simp at hl), (List.dropLast_concat_getLast _).symm⟩
    have h1 := ih a (by simpa using hl) fun y hy => hd y (by simp [hy])
    have h2 := hd x (by simp)
    rw [cd_snoc, Int.pow_succ]
    omega
/-- The last n digits of c, to the base nine. -/
def digs : Nat → Int → List Int
  | 0, _ => []
  | n + 1, c => digs n (c / 9) ++ [c % 9]
theorem digs_len : ∀ (n : Nat) (c : Int), (digs n c).length = n
  | 0, _ => rfl
  | n + 1, c => by simp [digs, digs_len n]
theorem digs_dig : ∀ (n : Nat) (c : Int), Dig (digs n c)
  | 0, _ => fun x hx => by cases hx
  | n + 1, c => fun x hx => by
    simp only [digs, List.mem_append, List.mem_singleton] at hx
    rcases hx with hx | rfl
    · exact digs_dig n _ x hx
    · omega
theorem cd_digs : ∀ (n : Nat) (c : Int), 0 ≤ c → c < 9 ^ n → cdI (digs n c) = c
  | 0, c, h0, h1 => by simp at h1; simp [digs, cdI]; omega
  | n + 1, c, h0, h1 => by
    rw [Int.pow_succ] at h1
    simp only [digs]
    rw [cd_snoc, cd_digs n (c / 9) (by omega) (by omega)]
    omega
theorem digs_cd : ∀ (n : Nat) (l : List Int), l.length = n → Dig l → digs n (cdI l) = l := by
  intro n
  induction n with
  | zero => intro l hl _; rw [List.eq_nil_of_length_eq_zero hl]; rfl
  | succ n ih =>
    intro l hl hd
    obtain ⟨a, x, rfl⟩ : ∃ a x, l = a ++ [x] := ⟨l.dropLast, l.getLast (by intro e; rw [e] at hl; simp at hl), (List.dropLast_concat_getLast _).symm⟩
    have h2 := hd x (by simp)
    have h1 := ih a (by simpa using hl) fun y hy => hd y (by simp [hy])
    simp only [digs]
    rw [cd_snoc, show (cdI a * 9 + x) / 9 = cdI a from by omega, show (cdI a * 9 + x) % 9 = x from by omega, h1]
theorem cd_add : ∀ (b a : List Int), cdI (a ++ b) = cdI a * 9 ^ b.length + cdI b := by
  intro b
  induction b with
  | nil => intro a; simp [cdI]
  | cons x b ih =>
    intro a
    have e1 := ih (a ++ [x])
    have e2 := ih [x]
    have e3 : cdI [x] = x := by simp [cdI]
    rw [List.append_assoc, List.singleton_append] at e1
    rw [List.singleton_append, e3] at e2
    rw [e1, e2, cd_snoc, List.length_cons, Int.pow_succ, Int.add_mul, Int.mul_assoc, Int.mul_comm 9]
    omega
/-- One number less by one: the number of the list less by that place's weight. -/
theorem cd_less {l : List Int} {i : Nat} (h : i < l.length) : cdI (lessAt l i) = cdI l - 9 ^ (l.length - 1 - i) := by
  have e1 : l = l.take i ++ ([l[i]] ++ l.drop (i + 1)) := by
    conv => lhs; rw [← List.take_append_drop i l, List.drop_eq_getElem_cons h]
    rfl
  have e2 : lessAt l i = l.take i ++ ([l[i] - 1] ++ l.drop (i + 1)) := by
    unfold lessAt
    rw [List.getD_eq_getElem?_getD, List.getElem?_eq_getElem h, List.set_eq_take_append_cons_drop, if_pos h]
    rfl
  have e3 : ∀ x : Int, cdI [x] = x := fun x => by simp [cdI]
  have hd : (l.drop (i + 1)).length = l.length - 1 - i := by simp; omega
  rw [e2]
  conv => rhs; rw [e1]
  rw [cd_add, cd_add, cd_add, cd_add, e3, e3, List.length_append, List.length_append, List.length_singleton, List.length_singleton]
  rw [show ((l.take i ++ ([l[i]] ++ l.drop (i + 1))).length - 1 - i) = (l.drop (i + 1)).length from by rw [← e1]; omega]
  rw [Int.sub_mul, Int.one_mul]
  omega
/-- What NeighbourBound answers. -/
def nbOf (l : List Int) : Int × Int := if 1 ≤ l.length ∧ l.length ≤ 4 ∧ ∀ x ∈ l, 1 ≤ x ∧ x ≤ 8 then (if 1000000000 < nb l then (0, 3) else (nb l, 0)) else (0, 2)
end Go.Proofs.Ytlbhpbaeokgmaaa

/- The map of bounds that are known, and other memory of the neighbour bound. No condition. -/
namespace Go.Proofs.Ytlbhpbaeokgmaaa
open Go Go.RowKit Eng
set_option linter.unusedVariables false
set_option maxRecDepth 100000
theorem lay4 : laidOutB Try.prog = true := by kernel_rfl
theorem szT : tK4 < Try.prog.types.size := of_decide_eq_true (by kernel_rfl)
theorem keyLaw : WideMaps.KeyLaw Try.prog tK4 := deep_law_laid lay4 (m := 2) (k := tK4) (by omega) szT (by kernel_rfl) (by kernel_rfl)
def K4 (k : List Int) : Value := .agg (iv k).toArray
theorem lits1 (x : Int) (h0 : 0 ≤ x) (h1 : x ≤ 8) (d : Nat) : Try.prog.keyLits (d + 1) tI [.int .i64 x] = some [.int .i64 x] := by
  unfold Program.keyLits
  simp only [Try.underlyingTI]
  have : (Lit.int .i64 x).wf = true := by simp [Lit.wf, IntKind.min, IntKind.max, IntKind.signed, IntKind.bits]; omega
  simp [this]
theorem key4 {k : List Int} (hl : k.length = 4) (hd : Dig k) : ∃ l, keyOf Try.prog tK4 (K4 k) = some l := by
  match k, hl with
  | [a, b, c, d], _ =>
    have ha := hd a (by simp); have hb := hd b (by simp); have hc := hd c (by simp); have hdd := hd d (by simp)
    have u : Try.prog.underlying tK4 = some (.array 4 tI) := Try.underlying93
    have c4 : Try.prog.cellsOf tK4 = 4 := by kernel_rfl
    have c1 : Try.prog.cellsOf tI = 1 := by kernel_rfl
    have hk : Try.prog.keyType tK4 = true := by kernel_rfl
    have hs : 1 ≤ Try.prog.types.size := Nat.succ_le_of_lt (Nat.lt_of_le_of_lt (Nat.zero_le _) szT)
    obtain ⟨n, hn⟩ : ∃ n, Try.prog.types.size + 1 = n + 1 + 1 := ⟨Try.prog.types.size - 1, by omega⟩
    refine ⟨.string (keyBytes [.int .i64 a, .int .i64 b, .int .i64 c, .int .i64 d]), ?_⟩
    unfold keyOf
    simp only [u]
    rw [hk, hn]
    have hf : (K4 [a, b, c, d]).formed Try.prog tK4 = true := by unfold K4 Value.formed; simp only [u]; rw [c4]; rfl
    rw [hf]
    simp only [Bool.and_self, if_true]
    have hL : Try.prog.keyLits (n + 1 + 1) tK4 (K4 [a, b, c, d]).cells.toList = some [.int .i64 a, .int .i64 b, .int .i64 c, .int .i64 d] := by
      unfold Program.keyLits
      simp only [u]
      rw [if_pos (by rw [c4]; rfl)]
      simp only [c1, Nat.mul_one]
      have r4 : List.range 4 = [0, 1, 2, 3] := rfl
      have e : (K4 [a, b, c, d]).cells.toList = [.int .i64 a, .int .i64 b, .int .i64 c, .int .i64 d] := rfl
      rw [r4, e]
      simp only [List.mapM_cons, List.mapM_nil, List.drop, List.take, lits1 a ha.1 ha.2, lits1 b hb.1 hb.2, lits1 c hc.1 hc.2, lits1 d hdd.1 hdd.2]
      rfl
    rw [hL]
    rfl
theorem K4_inj {a b : List Int} (h : K4 a = K4 b) : a = b := by
  unfold K4 at h
  injection h with h
  have h := congrArg Array.toList h
  simp only [iv] at h
  have inj : ∀ {a b : List Int}, a.map (Value.int .i64) = b.map (Value.int .i64) → a = b := by
    intro a
    induction a with
    | nil => intro b h; cases b with | nil => rfl | cons _ _ => cases h
    | cons x a ih => intro b h; cases b with
      | nil => cases h
      | cons y b =>
        simp only [List.map_cons, List.cons.injEq, Value.int.injEq, true_and] at h
        rw [h.1, ih h.2]
  exact inj (by simpa using h)
def nz (k : List Int) : List Int := k.filter (· != 0)
structure MapN (w : World) (bm : Nat) : Prop where
  ex : ∃ es clock, w.heap[bm]? = some (.map es clock) ∧ ∀ e ∈ es.toList, ∃ k : List Int, k.length = 4 ∧ Dig k ∧ e.key = K4 k ∧ e.val = .int .i64 (nb (nz k))
theorem MapN.lt {w : World} {bm : Nat} (h : MapN w bm) : bm < w.heap.size := by obtain ⟨_, _, hb, _⟩ := h.ex; exact Mem.at_lt hb
theorem MapN.keep {w w' : World} {bm : Nat} (h : MapN w bm) (q : Below w.heap.size w w') : MapN w' bm := by
  obtain ⟨es, c, hb, r⟩ := h.ex
  exact ⟨es, c, Mem.below_at q hb (Mem.at_lt hb), r⟩
theorem MapN.mod {w w' : World} {bm : Nat} {S : List Nat} (h : MapN w bm) (m : Mem.Mod S w w') (hn : bm ∉ S) : MapN w' bm := by
  obtain ⟨es, c, hb, r⟩ := h.ex
  exact ⟨es, c, m.at_ hb hn, r⟩
theorem map_new {w : World} {K : Value → World → Prop} (hK : ∀ w' bm, w.heap.size = bm → Below w.heap.size w w' → MapN w' bm → K (.map (some bm)) w') : Pr Try.prog (Instr.makeMap tMp none) w (.one .any) K :=
  ⟨_, _, run_makeMap_plain w tMp, hK _ _ rfl (Mem.new_alloc w _).below ⟨#[], 0, (Mem.new_alloc w _).at_, fun e he => by cases he⟩⟩
theorem map_get {w : World} {bm : Nat} {k : List Int} {K : Int × Bool → World → Prop} (h : MapN w bm) (hl : k.length = 4) (hd : Dig k) (h1 : K (nb (nz k), true) w) (h0 : K (0, false) w) :
    Pr Try.prog (Instr.lookup tMp (.map (some bm)) (K4 k) true) w (.two (.int .i64) .bool) K := by
  obtain ⟨es, clock, hb, hes⟩ := h.ex
  obtain ⟨kl, hk⟩ := key4 hl hd
  have ht : Try.prog.underlying tMp = some (.map tK4 tI) := Try.underlying80
  have hz : (zeroValue tI).run Try.prog w = .ok (.int .i64 0) w := by kernel_rfl
  rcases keyLaw.find w hk es.toList (fun e he => by obtain ⟨k', a, b, c, _⟩ := hes e he; rw [c]; exact key4 a b) with ⟨f1, _⟩ | ⟨j, e, f1, f2, f3⟩
  · refine ⟨(0, false), w, ?_, h0⟩
    simp [Instr.lookup, run_underlying ht, MapKept.run_getObj_map hb, keyLaw.check w _ hk, f1, hz, Result.andThen]
  · obtain ⟨k', a, b, c, d⟩ := hes e (List.mem_of_getElem? f2)
    have : k' = k := K4_inj (c.symm.trans f3)
    subst this
    refine ⟨(nb (nz k'), true), w, ?_, h1⟩
    simp [Instr.lookup, run_underlying ht, MapKept.run_getObj_map hb, keyLaw.check w _ hk, f1, d, Result.andThen]
theorem map_put {w : World} {bm : Nat} {k : List Int} {x : Int} {K : World → Prop} (h : MapN w bm) (hl : k.length = 4) (hd : Dig k) (hx : x = nb (nz k)) (hK : ∀ w', Mem.Mod [bm] w w' → w'.heap.size = w.heap.size → MapN w' bm → K w') :
    PrU Try.prog (Instr.mapUpdate tMp (.map (some bm)) (K4 k) (.int .i64 x)) w K := by
  subst hx
  obtain ⟨es, clock, hb, hes⟩ := h.ex
  obtain ⟨kl, hk⟩ := key4 hl hd
  have ht : Try.prog.underlying tMp = some (.map tK4 tI) := Try.underlying80
  have hlt := Mem.at_lt hb
  have put : ∀ o : Obj, Mem.Mod [bm] w { w with heap := w.heap.setIfInBounds bm o } ∧ ({ w with heap := w.heap.setIfInBounds bm o } : World).heap[bm]? = some o := fun o =>
    ⟨⟨rfl, rfl, rfl, by simp, fun j hj hn => by
      simp only [List.mem_singleton] at hn
      show (w.heap.setIfInBounds bm o)[j]? = _
      rw [Array.getElem?_setIfInBounds_ne (Ne.symm hn)]⟩, by show (w.heap.setIfInBounds bm o)[bm]? = _; simp [hlt]⟩
  rcases keyLaw.find w hk es.toList (fun e he => by obtain ⟨k', a, b, c, _⟩ := hes e he; rw [c]; exact key4 a b) with ⟨f1, _⟩ | ⟨j, e, f1, f2, f3⟩
  · obtain ⟨m, hb'⟩ := put (.map (es.push { key := K4 k, val := .int .i64 (nb (nz k)), born := clock }) (clock + 1))
    refine ⟨_, ?_, hK _ m (by simp) ⟨_, _, hb', fun e he => ?_⟩⟩
    · simp [Instr.mapUpdate, run_underlying ht, MapKept.run_getObj_map hb, keyLaw.check w false hk, f1, MapKept.run_setObj_map _ hb, Result.andThen]
    · simp only [Array.toList_push, List.mem_append, List.mem_singleton] at he
      rcases he with he | rfl
      · exact hes e he
      · exact ⟨k, hl, hd, rfl, rfl⟩
  · obtain ⟨m, hb'⟩ := put (.map (es.modify j fun e => { e with key := K4 k, val := .int .i64 (nb (nz k)) }) clock)
    have hj : es[j]? = some e := by rw [← Array.getElem?_toList]; exact f2
    refine ⟨_, ?_, hK _ m (by simp) ⟨_, _, hb', fun e' he => ?_⟩⟩
    · simp [Instr.mapUpdate, run_underlying ht, MapKept.run_getObj_map hb, keyLaw.check w false hk, f1, hj, f3, keyLaw.stays w hk, MapKept.run_setObj_map _ hb, Result.andThen]
    · obtain ⟨i, hi, rfl⟩ := List.getElem_of_mem he
      have hi' : i < es.size := by simpa using hi
      by_cases e0 : j = i
      · subst e0
        refine ⟨k, hl, hd, ?_, ?_⟩ <;> simp
      · have : (es.modify j fun e => { e with key := K4 k, val := .int .i64 (nb (nz k)) }).toList[i] = es.toList[i]'(by simpa using hi') := by simp [e0]
        rw [this]
        exact hes _ (List.getElem_mem _)
end Go.Proofs.Ytlbhpbaeokgmaaa

/- Memory rules for the neighbour bound: a table's bytes, keys, parts of own slices; and lists that are sorted in place. No condition. -/
namespace Go.Proofs.Ytlbhpbaeokgmaaa
open Go Go.RowKit Eng Mem
set_option linter.unusedVariables false
set_option maxRecDepth 100000
/-- A byte of a string, whichever. -/
theorem ixStr {s : ByteArray} {k : IntKind} {i : Int} {K : Int → Prop} (h0 : 0 ≤ i) (h1 : i < s.size) (hK : ∀ x : UInt8, K (x.toNat : Int)) : QAll Try.prog (Instr.index tS (.string s) (.int k i)) (.int .u8) K := by
  have hi : i.toNat < s.size := by omega
  refine ⟨((s.get i.toNat hi).toNat : Int), fun w => ?_, hK _⟩
  rw [run_index_string w tS s k i Try.underlying9, dif_pos ⟨h0, by omega⟩]
  rfl
/-! ### Keys -/
theorem buildK_run (w : World) : (Instr.build tK4 #[]).run Try.prog w = .ok (.agg zK4.toArray) w := by kernel_rfl
/-- A key of a list: the list, then noughts. -/
def pad4 (l : List Int) : List Int := l ++ List.replicate (4 - l.length) 0
theorem pad4_len {l : List Int} (h : l.length ≤ 4) : (pad4 l).length = 4 := by simp [pad4]; omega
theorem pad4_dig {l : List Int} (h : ∀ x ∈ l, 1 ≤ x ∧ x ≤ 8) : Dig (pad4 l) := fun x hx => by
  simp only [pad4, List.mem_append] at hx
  rcases hx with hx | hx
  · have := h x hx; omega
  · rw [List.eq_of_mem_replicate hx]; omega
theorem pad4_nz {l : List Int} (h : ∀ x ∈ l, 1 ≤ x ∧ x ≤ 8) : nz (pad4 l) = l := by
  unfold nz pad4
  rw [List.filter_append, List.filter_eq_self.2, List.filter_eq_nil_iff.2, List.append_nil]
  · intro x hx; rw [List.eq_of_mem_replicate hx]; simp
  · intro x hx; have := h x hx; simp; omega
theorem slK_run (b : Nat) (w : World) : (Instr.sliceAt tK4 (ptr b 0) none none none).run Try.prog w = .ok (.slice (some ⟨b, 0, none⟩) 4 4) w := by
  have hs : (Try.prog.info? tI).map (·.size) = some 1 := yI.size
  have hu : Try.prog.underlying tK4 = some (.array 4 tI) := Try.underlying93
  unfold Instr.sliceAt
  simp [run_underlying hu, Instr.sureAddr, Instr.sliceBounds, sizeOf_run hs, add_none]
/-- The variable of a list's key. -/
theorem keyVar {w : World} {v : Value} {l : List Int} {t : TypeId} {K : Value → World → Prop} (h : SlI w v l) (h0 : l ≠ []) (hl : l.length ≤ 4)
    (hK : ∀ b w', w.heap.size ≤ b → b < w'.heap.size → Below w.heap.size w w' → Row w' (ptr b 0) (iv (pad4 l)) → K (ptr b 0) w') :
    Pr Try.prog (Instr.build tK4 #[]) w (.one .any) fun x w1 => Pr Try.prog (Instr.alloc tK4 true (.tuple #[])) w1 (.one .any) fun key w2 => PrU Try.prog (Instr.storeAt tK4 key x) w2 fun w3 =>
      QAll Try.prog (Instr.sliceAt tK4 key none none none) .any fun y => Pr Try.prog (Builtin.copy_ #[tSI, tSI] t #[y, v]) w3 (.one (.int .i64)) fun _ w4 => K key w4 := by
  refine ⟨_, w, buildK_run w, allocA yK4 fun b w1 n1 => stA0 yK4 n1.at_ rfl rfl (by intro v hv; rw [List.eq_of_mem_replicate hv]; rfl) fun w2 m2 s2 hb2 => ⟨_, fun w' => slK_run b w', ?_⟩⟩
  have e1 := n1.here; have s1 := n1.size
  have q2 : Below w.heap.size w w2 := n1.below.trans (m2.below (by omega) (by simp; omega))
  obtain ⟨a, n, c, rfl, hnc, hn, hr⟩ := (h.keep q2).sl
  obtain ⟨b2, off2, cs2, e2, fz2, hp, ha2, hr2⟩ := hr (by simpa using h0)
  injection hp with hp
  subst hp
  have hn : n = l.length := by simp at hn; omega
  subst hn
  have hrun := run_copy_row (P := Try.prog) w2 tSI tSI t tI b 0 4 4 ⟨b2, off2, none⟩ l.length c zK4.toArray tK4 (iv l) ySI.und yI.size hb2 (by rw [show Nat.min l.length 4 = l.length from Nat.min_eq_left hl]; simp)
    (fun j u hu => by
      have hj : j < (iv l).length := (List.getElem?_eq_some_iff.1 hu).1
      rw [add_none]; simp [World.cell?, ha2, hr2 j hj]; simpa using hu) (by simp [zK4]; omega) (iv_one l)
  have he : (zK4.toArray.toList.take 0 ++ iv l ++ zK4.toArray.toList.drop (0 + (iv l).length)) = iv (pad4 l) := by
    have e : List.drop l.length (List.replicate 4 (Value.int .i64 0)) = List.replicate (4 - l.length) (Value.int .i64 0) := List.drop_replicate
    show List.take 0 zK4 ++ iv l ++ List.drop (0 + (iv l).length) (List.replicate 4 (Value.int .i64 0)) = _
    rw [List.take_zero, List.nil_append, Nat.zero_add, List.length_map, e, iv, iv, pad4, List.map_append, List.map_replicate]
  rw [he] at hrun
  obtain ⟨m, hb⟩ := mod_setRow (l' := iv (pad4 l)) hb2
  exact ⟨_, _, hrun, hK b _ (by omega) (at_lt hb) (q2.trans (m.below (by omega) (by simp; omega))) (blk_row hb)⟩
theorem keyAt {w : World} {p : Value} {l : List Int} {K : Value → Prop} (h : Row w p (iv (pad4 l))) (hl : l.length ≤ 4) (hK : K (K4 (pad4 l))) : QSub Try.prog (Instr.loadAt tK4 p) w .any K :=
  ldA yK4 (by have := pad4_len hl; simpa [zK4] using this) h hK
/-! ### The end of a slice is taken away -/
theorem delEnd {w : World} {b : Nat} {v : Value} {l : List Int} {k k' : IntKind} {i : Int} {t : TypeId} {K : Value → World → Prop} (h : OwnI w b v l) (h0 : 0 ≤ i) (h1 : i < l.length)
    (hK : ∀ v' w', Mod [b] w w' → w'.heap.size = w.heap.size → OwnI w' b v' (l.take i.toNat) → K v' w') :
    QAll Try.prog (Instr.sliceAt tSI v (some (.int k i)) none none) .any fun x => Pr Try.prog (Builtin.clear_ #[tSI] t #[x]) w .unit fun _ w' =>
      QAll Try.prog (Instr.sliceAt tSI v none (some (.int k' i)) none) .any fun y => K y w' := by
  have hs : (Try.prog.info? tI).map (·.size) = some 1 := yI.size
  obtain ⟨cap, l', rfl, hb, hc, hcm, hl', htk, hx⟩ := h.ex
  simp only [Nat.mul_one] at hl' htk
  have h2 : i.toNat ≤ l.length := by omega
  have h3 : i.toNat < l.length := by omega
  refine ⟨.slice (some ⟨b, i.toNat, none⟩) (l.length - i.toNat) (cap - i.toNat), fun w' => ?_, ?_⟩
  · unfold Instr.sliceAt
    simp only [Sem.run_bind, run_underlying ySI.und, Result.andThen_ok]
    unfold Instr.slice
    have : ¬ cap = i.toNat := by omega
    simp [run_underlying ySI.und, Instr.sliceBounds, Instr.sliceBound, asIntOf, sizeOf_run hs, h0, hc, h2, add_none, this]
    omega
  obtain ⟨m, hb'⟩ := mod_setRow (l' := l'.take i.toNat ++ List.replicate (l.length - i.toNat) (.int .i64 0) ++ l'.drop (i.toNat + (List.replicate (l.length - i.toNat) (Value.int .i64 0)).length)) hb
  refine ⟨(), _, ?_, ⟨.slice (some ⟨b, 0, none⟩) i.toNat cap, fun w' => ?_, hK _ _ m (size_setRow' _ _ _) ?_⟩⟩
  · have hst := run_storeCells_at (P := Try.prog) b i.toNat tI (List.replicate (l.length - i.toNat) (.int .i64 0)) 0 l'.toArray w hb (by simp; omega) (by intro v hv; rw [List.eq_of_mem_replicate hv]; rfl)
    have hz : (zeroValue tI).run Try.prog w = .ok (.int .i64 0) w := zero_run yI.zero w
    have hzc : (Builtin.zeroCells (Value.int .i64 0).cells (l.length - i.toNat)).toList = List.replicate (l.length - i.toNat) (.int .i64 0) := by
      simp [Builtin.zeroCells, Value.cells]
      apply List.ext_getElem
      · simp
      · intro i h1 h2
        simp [Nat.mod_one]
    obtain ⟨n, hn⟩ : ∃ n, l.length - i.toNat = n + 1 := ⟨l.length - i.toNat - 1, by omega⟩
    rw [hn] at hst hzc ⊢
    simp only [Nat.add_zero] at hst
    simp [Builtin.clear_, run_underlying ySI.und, hz, hzc, hst]
  · have h4 : i.toNat ≤ cap := by omega
    unfold Instr.sliceAt
    simp only [Sem.run_bind, run_underlying ySI.und, Result.andThen_ok]
    unfold Instr.slice
    simp [run_underlying ySI.und, Instr.sliceBounds, Instr.sliceBound, asIntOf, sizeOf_run hs, h0, hc, h4, add_none]
    try omega
  have ht : (l.take i.toNat).length = i.toNat := by simp; omega
  unfold OwnI
  rw [ht]
  refine ⟨cap, _, rfl, hb', by omega, hcm, ?_, ?_, ?_⟩
  · simp; omega
  · rw [Nat.mul_one, List.take_append_of_le_length (by simp; omega), List.take_append_of_le_length (by simp; omega), List.take_take, Nat.min_self, iv, List.map_take]
    show _ = List.take i.toNat (iv l)
    rw [← htk, List.take_take, Nat.min_eq_left h2]
  · simp; omega
/-! ### Sorted lists -/
def Srt (l : List Int) (n : Nat) : Prop := ∀ p q : Nat, p < q → q < n → l.getD p 0 ≤ l.getD q 0
/-- Sorted up to n, but for what the place j holds, against those before. -/
def SrtBut (l : List Int) (n j : Nat) : Prop := ∀ p q : Nat, p < q → q < n → q ≠ j → l.getD p 0 ≤ l.getD q 0
def swp (l : List Int) (k : Nat) : List Int := (l.set (k + 1) (l.getD k 0)).set k (l.getD (k + 1) 0)
theorem swp_len (l : List Int) (k : Nat) : (swp l k).length = l.length := by simp [swp]
theorem swp_perm : ∀ (k : Nat) (l : List Int), k + 1 < l.length → (swp l k).Perm l
  | 0, x :: y :: t, _ => by simp only [swp]; exact List.Perm.swap _ _ _
  | k + 1, x :: t, h => by
    have := swp_perm k t (by simpa using h)
    simp only [swp] at this ⊢
    simpa using this
theorem swp_get {l : List Int} {k : Nat} (h : k + 1 < l.length) (p : Nat) : (swp l k).getD p 0 = if p = k then l.getD (k + 1) 0 else if p = k + 1 then l.getD k 0 else l.getD p 0 := by
  unfold swp
  simp only [List.getD_eq_getElem?_getD]
  by_cases h1 : p = k
  · subst h1
    rw [if_pos rfl, List.getElem?_set_self (by simp; omega)]
    rfl
  · rw [if_neg h1, List.getElem?_set_ne (Ne.symm h1)]
    by_cases h2 : p = k + 1
    · subst h2
      rw [if_pos rfl, List.getElem?_set_self h]
      rfl
    · rw [if_neg h2, List.getElem?_set_ne (Ne.symm h2)]
theorem srt_swp {l : List Int} {n k : Nat} (h : k + 1 < l.length) (hs : SrtBut l n (k + 1)) (hlt : l.getD (k + 1) 0 < l.getD k 0) : SrtBut (swp l k) n k := by
  intro p q hpq hq hqk
  rw [swp_get h, swp_get h, if_neg hqk]
  by_cases hq1 : q = k + 1
  · subst hq1
    rw [if_pos rfl]
    by_cases hp : p = k
    · rw [if_pos hp]; omega
    · rw [if_neg hp, if_neg (by omega)]
      exact hs p k (by omega) (by omega) (by omega)
  · rw [if_neg hq1]
    split
    · exact hs (k + 1) q (by omega) hq hq1
    · split
      · exact hs k q (by omega) hq hq1
      · exact hs p q hpq hq hq1
theorem srt_done0 {l : List Int} {n : Nat} (hs : SrtBut l n 0) : Srt l n := fun p q hpq hq => hs p q hpq hq (by omega)
theorem srt_done {l : List Int} {n k : Nat} (hs : SrtBut l n (k + 1)) (hle : l.getD k 0 ≤ l.getD (k + 1) 0) : Srt l n := fun p q hpq hq => by
  by_cases hqk : q = k + 1
  · subst hqk
    by_cases hp : p = k
    · subst hp; exact hle
    · exact Int.le_trans (hs p k (by omega) (by omega) (by omega)) hle
  · exact hs p q hpq hq hqk
end Go.Proofs.Ytlbhpbaeokgmaaa

/- The reading of impl_in, and its contract. No condition. -/
namespace Go.Proofs.Ytlbhpbaeokgmaaa
open Go Go.RowKit Eng Mem
set_option linter.unusedVariables false
set_option maxRecDepth 100000
def V_impl_in (n0 : Int) (low1 : Int) (high2 : Int) (w : World) (K : Bool → World → Prop) : Prop :=
  (((decide (n0 ≥ low1)) = true → K (decide (n0 ≤ high2)) w) ∧ ((decide (n0 ≥ low1)) = false → K false w))

theorem eq_impl_in (n0 : Int) (low1 : Int) (high2 : Int) (w : World) (K : Bool → World → Prop) :
    W Try.prog ty (fun _ _ _ _ => False) (bodyOf Try.f47) (fnPost Try.prog Try.f47.results.toList (.one .bool) K) (frame0 [(.int .i64 n0), (.int .i64 low1), (.int .i64 high2)] 15) w = V_impl_in n0 low1 high2 w K := by
  kernel_rfl

theorem body_impl_in : Try.f47.body = some (bodyOf Try.f47) := by kernel_rfl
theorem name_impl_in : (Try.f47.name == "runtime.NumGoroutine") = false := by kernel_rfl

theorem walk_impl_in (n0 : Int) (low1 : Int) (high2 : Int) {w : World} {K : Bool → World → Prop} (h : V_impl_in n0 low1 high2 w K) : Fc Try.prog 47 #[(.int .i64 n0), (.int .i64 low1), (.int .i64 high2)] w (.one .bool) K :=
  fn_ok follows (sound_none _) Try.func47 name_impl_in body_impl_in Try.ntmps47 [(.int .i64 n0), (.int .i64 low1), (.int .i64 high2)] (Eq.mpr (eq_impl_in n0 low1 high2 w K) h)

theorem c_impl_in (n lo hi : Int) {w : World} {K : Bool → World → Prop} (hK : K (decide (lo ≤ n ∧ n ≤ hi)) w) : Fc Try.prog F_impl_in #[.int .i64 n, .int .i64 lo, .int .i64 hi] w (.one .bool) K := by
  refine walk_impl_in n lo hi ⟨fun h => ?_, fun h => ?_⟩
  · have h := of_decide_eq_true h
    simpa [h] using hK
  · have h := of_decide_eq_false h
    have : ¬ lo ≤ n := h
    simpa [this] using hK

end Go.Proofs.Ytlbhpbaeokgmaaa

/- The reading of impl_areIn_1, and its contract. No condition. -/
namespace Go.Proofs.Ytlbhpbaeokgmaaa
open Go Go.RowKit Eng Mem
set_option linter.unusedVariables false
set_option maxRecDepth 100000
def V_impl_areIn_1 (n0 : Int) (x1 : Value) (x2 : Value) (w : World) (K : Bool → World → Prop) : Prop :=
  (QSub Try.prog (Instr.loadAt 2 x1) w (.int .i64) fun (x6_1 : Int) => (QSub Try.prog (Instr.loadAt 2 x2) w (.int .i64) fun (x7_2 : Int) => (Fc Try.prog 47 #[(.int .i64 n0), (.int .i64 x6_1), (.int .i64 x7_2)] w (.one .bool) fun (x8_4 : Bool) w_3 => K (!x8_4) w_3)))

theorem eq_impl_areIn_1 (n0 : Int) (x1 : Value) (x2 : Value) (w : World) (K : Bool → World → Prop) :
    W Try.prog ty (fun _ _ _ _ => False) (bodyOf Try.f80) (fnPost Try.prog Try.f80.results.toList (.one .bool) K) (frame0 [(.int .i64 n0), x1, x2] 10) w = V_impl_areIn_1 n0 x1 x2 w K := by
  kernel_rfl

theorem body_impl_areIn_1 : Try.f80.body = some (bodyOf Try.f80) := by kernel_rfl
theorem name_impl_areIn_1 : (Try.f80.name == "runtime.NumGoroutine") = false := by kernel_rfl

theorem walk_impl_areIn_1 (n0 : Int) (x1 : Value) (x2 : Value) {w : World} {K : Bool → World → Prop} (h : V_impl_areIn_1 n0 x1 x2 w K) : Fc Try.prog 80 #[(.int .i64 n0), x1, x2] w (.one .bool) K :=
  fn_ok follows (sound_none _) Try.func80 name_impl_areIn_1 body_impl_areIn_1 Try.ntmps80 [(.int .i64 n0), x1, x2] (Eq.mpr (eq_impl_areIn_1 n0 x1 x2 w K) h)

-- uses S2Sl
theorem c_impl_areIn_1 {p q : Value} {n lo hi : Int} {w : World} {K : Bool → World → Prop} (hp : Cell w p (.int .i64 lo)) (hq : Cell w q (.int .i64 hi)) (hK : K (!decide (lo ≤ n ∧ n ≤ hi)) w) :
    Fc Try.prog F_impl_areIn_1 #[.int .i64 n, p, q] w (.one .bool) K :=
  walk_impl_areIn_1 _ _ _ (ld (k := .int .i64) yI hp (ld (k := .int .i64) yI hq (c_impl_in _ _ _ hK)))

end Go.Proofs.Ytlbhpbaeokgmaaa

/- The reading of impl_sizeS, and its contract. No condition. -/
namespace Go.Proofs.Ytlbhpbaeokgmaaa
open Go Go.RowKit Eng Mem
set_option linter.unusedVariables false
set_option maxRecDepth 100000
def V_impl_sizeS (list0 : Value) (w : World) (K : Int → World → Prop) : Prop :=
  (QAll Try.prog (Builtin.len_ #[24] 3 #[list0]) (.int .i64) fun (x4_1 : Int) => K x4_1 w)

theorem eq_impl_sizeS (list0 : Value) (w : World) (K : Int → World → Prop) :
    W Try.prog ty (fun _ _ _ _ => False) (bodyOf Try.f52) (fnPost Try.prog Try.f52.results.toList (.one (.int .i64)) K) (frame0 [list0] 5) w = V_impl_sizeS list0 w K := by
  kernel_rfl

theorem body_impl_sizeS : Try.f52.body = some (bodyOf Try.f52) := by kernel_rfl
theorem name_impl_sizeS : (Try.f52.name == "runtime.NumGoroutine") = false := by kernel_rfl

theorem walk_impl_sizeS (list0 : Value) {w : World} {K : Int → World → Prop} (h : V_impl_sizeS list0 w K) : Fc Try.prog 52 #[list0] w (.one (.int .i64)) K :=
  fn_ok follows (sound_none _) Try.func52 name_impl_sizeS body_impl_sizeS Try.ntmps52 [list0] (Eq.mpr (eq_impl_sizeS list0 w K) h)

-- uses S2Sl
theorem c_impl_sizeS {a : Value} {l : List Int} {w : World} {K : Int → World → Prop} (h : SlI w a l) (hK : K (l.length : Int) w) : Fc Try.prog F_impl_sizeS #[a] w (.one (.int .i64)) K :=
  walk_impl_sizeS _ (lenI h hK)

end Go.Proofs.Ytlbhpbaeokgmaaa

/- The reading of slices_IndexFunc_int64_int64, and its contract. No condition. -/
namespace Go.Proofs.Ytlbhpbaeokgmaaa
open Go Go.RowKit Eng Mem
set_option linter.unusedVariables false
set_option maxRecDepth 100000
def B_slices_IndexFunc_int64_int64_2 (s0 : Value) (f1 : Value) (x7 : Int) (x8 : Int) (N : (Value × Value × Int) → Int → World → Prop) (D0 : (Unit) → World → Prop) (R : (Int × Unit) → World → Prop) (w : World) : Prop :=
  (((decide (x8 < x7)) = true → (QAll Try.prog (Instr.indexAt 24 s0 (.int .i64 x8)) .any fun (x14_2 : Value) => (QSub Try.prog (Instr.loadAt 2 x14_2) w (.int .i64) fun (x15_3 : Int) => (callV Try.prog f1 #[(.int .i64 x15_3)] w (.one .bool) fun (x16_5 : Bool) w_4 => ((x16_5 = true → R (x8, ()) w_4) ∧ (x16_5 = false → N ((s0 : Value), (f1 : Value), x7) (IntKind.i64.wrap (x8 + (1 : Int))) w_4)))))) ∧ ((decide (x8 < x7)) = false → D0 () w))

abbrev L_slices_IndexFunc_int64_int64_2_e0 : List Slot := [.junk, .junk, .junk, .junk, .junk, .junk, .junk, .junk, .junk, .junk, .junk, .junk, .junk, .junk, .junk, .junk, .junk, .junk, .junk]

abbrev L_slices_IndexFunc_int64_int64_2_sp : List Slot := [.k .any, .k .any, .junk, .junk, .junk, .junk, .junk, .k (.int .i64), .k (.int .i64), .junk, .junk, .junk, .junk, .junk, .junk, .junk, .junk, .junk, .junk]
abbrev L_slices_IndexFunc_int64_int64_2_ex : List (Nat × List Slot) := [(0, L_slices_IndexFunc_int64_int64_2_e0)]
abbrev L_slices_IndexFunc_int64_int64_2_rt : List Slot := [.junk, .junk, .junk, .junk, .k (.int .i64), .junk, .junk, .junk, .junk, .junk, .junk, .junk, .junk, .junk, .junk, .junk, .junk, .junk, .junk]

def L_slices_IndexFunc_int64_int64_2_b (Φ : Post) (u : (Value × Value × Int)) (N : (Value × Value × Int) → Int → World → Prop) (s : Int) (w : World) : Prop :=
  B_slices_IndexFunc_int64_int64_2 u.1 u.2.1 u.2.2 s N (fun v w => ∀ j : Nat → Value, Φ (.exit 0) (mkT j 0 L_slices_IndexFunc_int64_int64_2_e0 v) w) (fun v w => ∀ j : Nat → Value, Φ .ret (mkT j 0 L_slices_IndexFunc_int64_int64_2_rt v) w) w

theorem L_slices_IndexFunc_int64_int64_2_eq (j : Nat → Value) (u : (Value × Value × Int)) (s : Int) (N : (Value × Value × Int) → Int → World → Prop) (D0 : (Unit) → World → Prop) (R : (Int × Unit) → World → Prop) (w : World) :
    W Try.prog ty (fun _ _ _ _ => False) (loopAt Try.f86 2) (loopPost L_slices_IndexFunc_int64_int64_2_sp [(0, (⟨L_slices_IndexFunc_int64_int64_2_e0, D0⟩ : Door))] ⟨L_slices_IndexFunc_int64_int64_2_rt, R⟩ (fun v w => N ((fun v => (v.1, v.2.1, v.2.2.1)) v) ((fun v => v.2.2.2.1) v) w)) (mkT j 0 L_slices_IndexFunc_int64_int64_2_sp ((fun u s => (u.1, u.2.1, u.2.2, s, ())) u s)) w =
    B_slices_IndexFunc_int64_int64_2 u.1 u.2.1 u.2.2 s N D0 R w := by
  kernel_rfl

def O_slices_IndexFunc_int64_int64_1 : Code → Post → List SV → World → Prop :=
  orc 2 (loopAt Try.f86 2) L_slices_IndexFunc_int64_int64_2_sp (fun Φ fr w => LOOP (U := (Value × Value × Int)) (S := Int) ((fun v => (v.1, v.2.1, v.2.2.1)) (extT L_slices_IndexFunc_int64_int64_2_sp fr)) (L_slices_IndexFunc_int64_int64_2_b Φ ((fun v => (v.1, v.2.1, v.2.2.1)) (extT L_slices_IndexFunc_int64_int64_2_sp fr))) ((fun v => v.2.2.2.1) (extT L_slices_IndexFunc_int64_int64_2_sp fr)) w) (fun _ _ _ _ => False)

theorem O_slices_IndexFunc_int64_int64_1_ok : Sound Try.prog O_slices_IndexFunc_int64_int64_1 :=
  orc_ok (sound_none _) fun Φ fr w hs h => loop_ok (ty := ty) follows (sound_none _) L_slices_IndexFunc_int64_int64_2_sp (fun v => (v.1, v.2.1, v.2.2.1)) (fun v => v.2.2.2.1) (fun u s => (u.1, u.2.1, u.2.2, s, ())) (fun _ => rfl) L_slices_IndexFunc_int64_int64_2_ex L_slices_IndexFunc_int64_int64_2_rt (body := L_slices_IndexFunc_int64_int64_2_b Φ) (fun j u s w N hb => by
    have e := L_slices_IndexFunc_int64_int64_2_eq j u s N (doorOf Φ (.exit 0) L_slices_IndexFunc_int64_int64_2_e0).D (doorOf Φ .ret L_slices_IndexFunc_int64_int64_2_rt).D w
    exact Eq.mpr e hb) hs h

def V_slices_IndexFunc_int64_int64 (s0 : Value) (f1 : Value) (w : World) (K : Int → World → Prop) : Prop :=
  (QAll Try.prog (Builtin.len_ #[24] 3 #[s0]) (.int .i64) fun (x7_1 : Int) => (At (loopAt Try.f86 2) (loopAt Try.f86 2) (LOOP (U := (Value × Value × Int)) (S := Int) ((s0 : Value), (f1 : Value), x7_1) (fun N_12 s_13 w_14 => B_slices_IndexFunc_int64_int64_2 (s0 : Value) (f1 : Value) x7_1 s_13 N_12 (fun (v_6 : (Unit)) w_7 => ∀ _j_8 : Nat → Value, K (-1 : Int) w_7) (fun (v_9 : (Int × Unit)) w_10 => ∀ _j_11 : Nat → Value, K v_9.1 w_10) w_14) (0 : Int) w)))

theorem eq_slices_IndexFunc_int64_int64 (s0 : Value) (f1 : Value) (w : World) (K : Int → World → Prop) :
    W Try.prog ty O_slices_IndexFunc_int64_int64_1 (bodyOf Try.f86) (fnPost Try.prog Try.f86.results.toList (.one (.int .i64)) K) (frame0 [s0, f1] 19) w = V_slices_IndexFunc_int64_int64 s0 f1 w K := by
  kernel_rfl

theorem body_slices_IndexFunc_int64_int64 : Try.f86.body = some (bodyOf Try.f86) := by kernel_rfl
theorem name_slices_IndexFunc_int64_int64 : (Try.f86.name == "runtime.NumGoroutine") = false := by kernel_rfl

theorem walk_slices_IndexFunc_int64_int64 (s0 : Value) (f1 : Value) {w : World} {K : Int → World → Prop} (h : V_slices_IndexFunc_int64_int64 s0 f1 w K) : Fc Try.prog 86 #[s0, f1] w (.one (.int .i64)) K :=
  fn_ok follows O_slices_IndexFunc_int64_int64_1_ok Try.func86 name_slices_IndexFunc_int64_int64 body_slices_IndexFunc_int64_int64 Try.ntmps86 [s0, f1] (Eq.mpr (eq_slices_IndexFunc_int64_int64 s0 f1 w K) h)

-- uses S2Sl
theorem c_slices_IndexFunc_int64_int64 {s f : Value} {l : List Int} (g : Int → Bool) {w : World} {K : Int → World → Prop} (h : SlI w s l)
    (hf : ∀ x ∈ l, ∀ (w' : World) (K' : Bool → World → Prop), Below w.heap.size w w' → (∀ w'', Below w'.heap.size w' w'' → K' (g x) w'') → callV Try.prog f #[.int .i64 x] w' (.one .bool) K')
    (hK : ∀ w' (r : Int), Below w.heap.size w w' → (r = -1 ∧ l.any g = false ∨ ∃ i : Nat, r = i ∧ i < l.length ∧ g (l.getD i 0) = true ∧ ∀ j, j < i → g (l.getD j 0) = false) → K r w') :
    Fc Try.prog F_slices_IndexFunc_int64_int64 #[s, f] w (.one (.int .i64)) K := by
  have hlen := h.len
  refine walk_slices_IndexFunc_int64_int64 _ _ (lenI h ?_)
  refine lp (fun i w' => 0 ≤ i ∧ i ≤ l.length ∧ Below w.heap.size w w' ∧ ∀ j : Nat, (j : Int) < i → g (l.getD j 0) = false) (fun i _ => (l.length - i).toNat)
    ⟨by omega, by omega, Below.refl _ _, fun j hj => by omega⟩ ?_
  rintro i w1 N ⟨h0, hi, hb, hall⟩ hN
  unfold B_slices_IndexFunc_int64_int64_2
  refine ⟨fun hlt => ?_, fun hge => ?_⟩
  · have hlt := dec_t hlt
    refine atI (h.keep hb) h0 hlt ?_
    have hm : l.getD i.toNat 0 ∈ l := by
      simp only [List.getD, show i.toNat < l.length from by omega, List.getElem?_eq_getElem, Option.getD_some]
      exact List.getElem_mem _
    refine hf _ hm w1 _ hb fun w2 hb2 => ?_
    have hbb := hb.trans (hb2.mono hb.size)
    refine ⟨fun ht _ => hK w2 _ hbb (.inr ⟨i.toNat, by omega, by omega, ht, fun j hj => hall j (by omega)⟩), fun hn => ?_⟩
    rw [wrap_small (by omega) (by omega)]
    refine hN _ _ ⟨by omega, by omega, hbb, fun j hj => ?_⟩ (by omega)
    by_cases hji : (j : Int) < i
    · exact hall j hji
    · have : j = i.toNat := by omega
      subst this; exact hn
  · have hge := dec_f hge
    refine fun _ => hK w1 _ hb (.inl ⟨rfl, ?_⟩)
    rw [List.any_eq_false]
    intro x hx
    obtain ⟨j, hj, rfl⟩ := List.getElem_of_mem hx
    have := hall j (by omega)
    simpa [List.getD, hj] using this

end Go.Proofs.Ytlbhpbaeokgmaaa

/- The reading of slices_ContainsFunc_int64_int64, and its contract. No condition. -/
namespace Go.Proofs.Ytlbhpbaeokgmaaa
open Go Go.RowKit Eng Mem
set_option linter.unusedVariables false
set_option maxRecDepth 100000
def V_slices_ContainsFunc_int64_int64 (s0 : Value) (f1 : Value) (w : World) (K : Bool → World → Prop) : Prop :=
  (Fc Try.prog 86 #[s0, f1] w (.one (.int .i64)) fun (x7_2 : Int) w_1 => K (decide (x7_2 ≥ (0 : Int))) w_1)

theorem eq_slices_ContainsFunc_int64_int64 (s0 : Value) (f1 : Value) (w : World) (K : Bool → World → Prop) :
    W Try.prog ty (fun _ _ _ _ => False) (bodyOf Try.f79) (fnPost Try.prog Try.f79.results.toList (.one .bool) K) (frame0 [s0, f1] 9) w = V_slices_ContainsFunc_int64_int64 s0 f1 w K := by
  kernel_rfl

theorem body_slices_ContainsFunc_int64_int64 : Try.f79.body = some (bodyOf Try.f79) := by kernel_rfl
theorem name_slices_ContainsFunc_int64_int64 : (Try.f79.name == "runtime.NumGoroutine") = false := by kernel_rfl

theorem walk_slices_ContainsFunc_int64_int64 (s0 : Value) (f1 : Value) {w : World} {K : Bool → World → Prop} (h : V_slices_ContainsFunc_int64_int64 s0 f1 w K) : Fc Try.prog 79 #[s0, f1] w (.one .bool) K :=
  fn_ok follows (sound_none _) Try.func79 name_slices_ContainsFunc_int64_int64 body_slices_ContainsFunc_int64_int64 Try.ntmps79 [s0, f1] (Eq.mpr (eq_slices_ContainsFunc_int64_int64 s0 f1 w K) h)

-- uses S2Sl
theorem c_slices_ContainsFunc_int64_int64 {s f : Value} {l : List Int} (g : Int → Bool) {w : World} {K : Bool → World → Prop} (h : SlI w s l)
    (hf : ∀ x ∈ l, ∀ (w' : World) (K' : Bool → World → Prop), Below w.heap.size w w' → (∀ w'', Below w'.heap.size w' w'' → K' (g x) w'') → callV Try.prog f #[.int .i64 x] w' (.one .bool) K')
    (hK : ∀ w', Below w.heap.size w w' → K (l.any g) w') :
    Fc Try.prog F_slices_ContainsFunc_int64_int64 #[s, f] w (.one .bool) K := by
  refine walk_slices_ContainsFunc_int64_int64 _ _ (c_slices_IndexFunc_int64_int64 g h hf fun w' r hb hr => ?_)
  have := hK w' hb
  rcases hr with ⟨rfl, hn⟩ | ⟨i, rfl, hi, ht, _⟩
  · rw [hn] at this; exact this
  · rw [show l.any g = true from List.any_eq_true.2 ⟨l[i], List.getElem_mem hi, by simpa [List.getD, hi] using ht⟩] at this
    rw [decide_eq_true (by omega)]; exact this

end Go.Proofs.Ytlbhpbaeokgmaaa

/- The reading of impl_areIn, and its contract. No condition. -/
namespace Go.Proofs.Ytlbhpbaeokgmaaa
open Go Go.RowKit Eng Mem
set_option linter.unusedVariables false
set_option maxRecDepth 100000
def V_impl_areIn (list0 : Value) (many1 : Int) (low2 : Int) (high3 : Int) (w : World) (K : Bool → World → Prop) : Prop :=
  (Pr Try.prog (Instr.box 2 (.int .i64 low2)) w (.one .any) fun (low6_2 : Value) w_1 => (Pr Try.prog (Instr.box 2 (.int .i64 high3)) w_1 (.one .any) fun (high7_4 : Value) w_3 => (Fc Try.prog 52 #[list0] w_3 (.one (.int .i64)) fun (x10_6 : Int) w_5 => (((x10_6 == many1) = true → (Fc Try.prog 79 #[list0, (.func (.func 80) #[] #[low6_2, high7_4])] w_5 (.one .bool) fun (x16_8 : Bool) w_7 => K (!x16_8) w_7)) ∧ ((x10_6 == many1) = false → K false w_5)))))

theorem eq_impl_areIn (list0 : Value) (many1 : Int) (low2 : Int) (high3 : Int) (w : World) (K : Bool → World → Prop) :
    W Try.prog ty (fun _ _ _ _ => False) (bodyOf Try.f64) (fnPost Try.prog Try.f64.results.toList (.one .bool) K) (frame0 [list0, (.int .i64 many1), (.int .i64 low2), (.int .i64 high3)] 19) w = V_impl_areIn list0 many1 low2 high3 w K := by
  kernel_rfl

theorem body_impl_areIn : Try.f64.body = some (bodyOf Try.f64) := by kernel_rfl
theorem name_impl_areIn : (Try.f64.name == "runtime.NumGoroutine") = false := by kernel_rfl

theorem walk_impl_areIn (list0 : Value) (many1 : Int) (low2 : Int) (high3 : Int) {w : World} {K : Bool → World → Prop} (h : V_impl_areIn list0 many1 low2 high3 w K) : Fc Try.prog 64 #[list0, (.int .i64 many1), (.int .i64 low2), (.int .i64 high3)] w (.one .bool) K :=
  fn_ok follows (sound_none _) Try.func64 name_impl_areIn body_impl_areIn Try.ntmps64 [list0, (.int .i64 many1), (.int .i64 low2), (.int .i64 high3)] (Eq.mpr (eq_impl_areIn list0 many1 low2 high3 w K) h)

-- uses S3Part
theorem c_impl_areIn {a : Value} {l : List Int} {many lo hi : Int} {w : World} {K : Bool → World → Prop} (h : SlI w a l) (hK : ∀ w', Below w.heap.size w w' → K (decide ((l.length : Int) = many ∧ AllIn l lo hi)) w') :
    Fc Try.prog F_impl_areIn #[a, .int .i64 many, .int .i64 lo, .int .i64 hi] w (.one .bool) K := by
  refine walk_impl_areIn _ _ _ _ (box [.int .i64 lo] rfl fun b1 w1 n1 => box [.int .i64 hi] rfl fun b2 w2 n2 => ?_)
  have hb := n1.below.trans (n2.below.mono n1.below.size)
  have c1 : Cell w2 (ptr b1 0) (.int .i64 lo) := (row_all (cs := [_]) n1.at_).keep n2.below
  have c2 : Cell w2 (ptr b2 0) (.int .i64 hi) := row_all (cs := [_]) n2.at_
  refine c_impl_sizeS (h.keep hb) ⟨fun he => ?_, fun hn => ?_⟩
  · have he := eq_t he
    refine c_slices_ContainsFunc_int64_int64 (fun x => !decide (lo ≤ x ∧ x ≤ hi)) (h.keep hb) (fun x hx w' K' hb' hk => cv rfl ?_) fun w' hb' => ?_
    · exact c_impl_areIn_1 (c1.keep hb') (c2.keep hb') (hk _ (Below.refl _ _))
    · have := hK w' (hb.trans (hb'.mono hb.size))
      have e : decide ((l.length : Int) = many ∧ AllIn l lo hi) = !(l.any fun x => !decide (lo ≤ x ∧ x ≤ hi)) := by
        rw [Bool.eq_iff_iff]
        simp [he, AllIn]
      rw [e] at this
      exact this
  · have := hK w2 hb
    rwa [decide_eq_false (fun hh => eq_f hn hh.1)] at this

end Go.Proofs.Ytlbhpbaeokgmaaa

/- The reading of impl_neighbourBound_1, and its contract. No condition. -/
namespace Go.Proofs.Ytlbhpbaeokgmaaa
open Go Go.RowKit Eng Mem
set_option linter.unusedVariables false
set_option maxRecDepth 100000
def V_impl_neighbourBound_1 (s0 : Int) (w : World) (K : Bool → World → Prop) : Prop :=
  K (s0 == (2 : Int)) w

theorem eq_impl_neighbourBound_1 (s0 : Int) (w : World) (K : Bool → World → Prop) :
    W Try.prog ty (fun _ _ _ _ => False) (bodyOf Try.f82) (fnPost Try.prog Try.f82.results.toList (.one .bool) K) (frame0 [(.int .i64 s0)] 5) w = V_impl_neighbourBound_1 s0 w K := by
  kernel_rfl

theorem body_impl_neighbourBound_1 : Try.f82.body = some (bodyOf Try.f82) := by kernel_rfl
theorem name_impl_neighbourBound_1 : (Try.f82.name == "runtime.NumGoroutine") = false := by kernel_rfl

theorem walk_impl_neighbourBound_1 (s0 : Int) {w : World} {K : Bool → World → Prop} (h : V_impl_neighbourBound_1 s0 w K) : Fc Try.prog 82 #[(.int .i64 s0)] w (.one .bool) K :=
  fn_ok follows (sound_none _) Try.func82 name_impl_neighbourBound_1 body_impl_neighbourBound_1 Try.ntmps82 [(.int .i64 s0)] (Eq.mpr (eq_impl_neighbourBound_1 s0 w K) h)

-- uses S2Sl
theorem c_impl_neighbourBound_1 {x : Int} {w : World} {K : Bool → World → Prop} (hK : K (x == 2) w) : Fc Try.prog F_impl_neighbourBound_1 #[.int .i64 x] w (.one .bool) K :=
  walk_impl_neighbourBound_1 _ hK

end Go.Proofs.Ytlbhpbaeokgmaaa

/- The reading of slices_Clone_int64_int64, and its contract. No condition. -/
namespace Go.Proofs.Ytlbhpbaeokgmaaa
open Go Go.RowKit Eng Mem
set_option linter.unusedVariables false
set_option maxRecDepth 100000
def V_slices_Clone_int64_int64 (s0 : Value) (w : World) (K : Value → World → Prop) : Prop :=
  (QAll Try.prog (do eqGuard .eql 24 (.tmp 3) (.const (.slice none 0 0)) s0 (.slice none 0 0); binOp .eql 24 s0 (.slice none 0 0)) .bool fun (x4_1 : Bool) => ((x4_1 = true → K ((.slice none 0 0) : Value) w) ∧ (x4_1 = false → (Pr Try.prog (Instr.buildSlice 24 0 #[]) w (.one .any) fun (x5_3 : Value) w_2 => (Pr Try.prog (Builtin.append_ #[24, 24] 24 #[x5_3, s0]) w_2 (.one .any) fun (x7_5 : Value) w_4 => K (x7_5 : Value) w_4)))))

theorem eq_slices_Clone_int64_int64 (s0 : Value) (w : World) (K : Value → World → Prop) :
    W Try.prog ty (fun _ _ _ _ => False) (bodyOf Try.f43) (fnPost Try.prog Try.f43.results.toList (.one .any) K) (frame0 [s0] 8) w = V_slices_Clone_int64_int64 s0 w K := by
  kernel_rfl

theorem body_slices_Clone_int64_int64 : Try.f43.body = some (bodyOf Try.f43) := by kernel_rfl
theorem name_slices_Clone_int64_int64 : (Try.f43.name == "runtime.NumGoroutine") = false := by kernel_rfl

theorem walk_slices_Clone_int64_int64 (s0 : Value) {w : World} {K : Value → World → Prop} (h : V_slices_Clone_int64_int64 s0 w K) : Fc Try.prog 43 #[s0] w (.one .any) K :=
  fn_ok follows (sound_none _) Try.func43 name_slices_Clone_int64_int64 body_slices_Clone_int64_int64 Try.ntmps43 [s0] (Eq.mpr (eq_slices_Clone_int64_int64 s0 w K) h)

-- uses S2Sl
theorem c_slices_Clone_int64_int64 {a : Value} {l : List Int} {w : World} {K : Value → World → Prop} (h : SlI w a l) (hl : l.length ≤ 1099511627776) (hK : ∀ v w', Below w.heap.size w w' → MyI w.heap.size w'.heap.size w' v l → K v w') :
    Fc Try.prog F_slices_Clone_int64_int64 #[a] w (.one .any) K := by
  refine walk_slices_Clone_int64_int64 _ (nil_I h fun b hb => ⟨fun ht => ?_, fun _ => ?_⟩)
  · have := hb ht
    subst this
    exact hK _ w (Below.refl _ _) (myI_nil _ _ _)
  · refine nilI fun b v w1 hb1 hbel ho => ?_
    refine appsI ho (h.keep hbel) (by simpa using hl) fun v' w2 b2 o m hb2 => ?_
    have hs := hbel.size
    rw [List.nil_append] at o
    exact hK _ w2 (hbel.trans (m.below (by omega) (by simp; omega))) (own_my o hl (by omega) o.lt)

end Go.Proofs.Ytlbhpbaeokgmaaa
