/- Texts that the law FnExactParseColouring needs, joined. No condition. -/
import Derived.OrdersHeld
import Derived.Deep.RegionHeld3
import Derived.Deep.LoopGhost
import Derived.Below
import Derived.Deep.Draws
import Derived.Tactics
import Derived.KernelRfl
import Derived.Laws.OwnMore
import Derived.Laws.MakeOwn
import Derived.Laws.CopyRow
import Derived.Laws.Rows
import Derived.Laws.Entries
import Derived.OwnWalk
import Derived.IntWalk
import Derived.Laws.Small
import Derived.Test.YtmecbbanklffgaaDoorProg
import Derived.Lib.SliceRun
set_option linter.all false
/- The engine: a functional reading W of a function's code as a statement over memory, and the proof that what W says, the machine does. No condition. -/
namespace Go.Proofs.YtmecbbanklffgaaDoor.Eng
open Go Go.RowKit

/-! ### Kinds of values and of results -/
inductive TK where
  | int (k : IntKind) | bool | str | any
abbrev TK.T : TK → Type
  | .int _ => Int | .bool => Bool | .str => ByteArray | .any => Value
abbrev TK.val : (t : TK) → t.T → Value
  | .int k, n => .int k n | .bool, x => .bool x | .str, x => .string x | .any, x => x
inductive RT where
  | one (t : TK) | two (a b : TK) | three (a b c : TK) | unit
abbrev RT.T : RT → Type
  | .one t => t.T | .two a b => a.T × b.T | .three a b c => a.T × b.T × c.T | .unit => Unit
abbrev RT.val : (t : RT) → t.T → Value
  | .one t, x => t.val x
  | .two a b, x => .tuple #[a.val x.1, b.val x.2]
  | .three a b c, x => .tuple #[a.val x.1, b.val x.2.1, c.val x.2.2]
  | .unit, _ => .tuple #[]
/-- A row of kinds, by type numbers. -/
def RT.at (l : List RT) (t : Nat) : RT := l.getD t (.one .any)
def RT.tk : RT → TK
  | .one t => t | _ => .any

/-! ### What is asked of memory -/
structure Fc (P : Program) (f : FuncId) (args : Array Value) (w : World) (t : RT) (K : t.T → World → Prop) : Prop where
  ent : ∀ args w, (callFunc f args).run P w = .ok (.enter f args) w
  run : Calls P f args w (fun e w' => ∃ x, e = .returned (t.val x) ∧ K x w')
def callV (P : Program) (fv : Value) (args : Array Value) (w : World) (t : RT) (K : t.T → World → Prop) : Prop :=
  match fv with
  | .func (.func f) first cap => Fc P f (first ++ args ++ cap) w t K
  | _ => False
structure Pr (P : Program) (s : Sem Value) (w : World) (t : RT) (K : t.T → World → Prop) : Prop where
  ex : ∃ x w', s.run P w = .ok (t.val x) w' ∧ K x w'
structure PrU (P : Program) (s : Sem Unit) (w : World) (K : World → Prop) : Prop where
  ex : ∃ w', s.run P w = .ok () w' ∧ K w'
/-- In whatever world it yields this, and nothing turns. -/
structure QAll (P : Program) (s : Sem Value) (t : TK) (K : t.T → Prop) : Prop where
  ex : ∃ x, (∀ w, s.run P w = .ok (t.val x) w) ∧ K x
/-- In every world that keeps what this one has, it yields this, and nothing turns. -/
structure QSub (P : Program) (s : Sem Value) (w : World) (t : TK) (K : t.T → Prop) : Prop where
  ex : ∃ x, (∀ w', Below w.heap.size w w' → s.run P w' = .ok (t.val x) w') ∧ K x
structure Keeps (w w' : World) (K : Prop) : Prop where
  below : Below w.heap.size w w'
  k : K
def splitB (b : Bool) (K : Bool → Prop) : Prop := (b = true → K true) ∧ (b = false → K false)

/-! ### Frames -/
inductive SV where
  | lit (b : Bool) | val (v : Value)
def SV.den : SV → Value
  | .lit b => .bool b | .val v => v
def getS : List SV → Nat → SV
  | [], _ => .val undef
  | x :: _, 0 => x
  | _ :: l, n + 1 => getS l n
def setS : List SV → Nat → SV → List SV
  | [], _, _ => []
  | _ :: l, 0, v => v :: l
  | x :: l, n + 1, v => x :: setS l n v
def putS (fr : List SV) (d : Option Tmp) (v : SV) : List SV :=
  match d with | some d => setS fr d v | none => fr
def act (fr : List SV) : Act := { tmps := (fr.map SV.den).toArray, defers := [] }
def evS (fr : List SV) : Operand → SV
  | .tmp t => getS fr t
  | .const (.bool b) => .lit b
  | .const v => .val v
  | .global g => .val (.pointer (some ⟨g, 0, none⟩))
  | .func f => .val (.func (.func f) #[] #[])
def evV (fr : List SV) (x : Operand) : Value := (evS fr x).den
def evs (fr : List SV) : List Operand → List Value
  | [] => []
  | x :: l => evV fr x :: evs fr l

theorem getS_den : ∀ (fr : List SV) (t : Nat), (getS fr t).den = (fr.map SV.den).toArray.getD t undef
  | [], t => by simp [getS, SV.den]
  | x :: l, 0 => by simp [getS]
  | x :: l, n + 1 => by
    have := getS_den l n
    simp only [getS, this]
    simp
theorem act_eval (fr : List SV) (x : Operand) : (act fr).eval x = evV fr x := by
  cases x with
  | tmp t => simp only [Act.eval, act, evV, evS]; exact (getS_den fr t).symm
  | const v => cases v <;> rfl
  | global g => rfl
  | func f => rfl
theorem setS_den : ∀ (fr : List SV) (d : Nat) (v : SV), (setS fr d v).map SV.den = (fr.map SV.den).set d v.den
  | [], _, _ => rfl
  | _ :: _, 0, _ => rfl
  | x :: l, n + 1, v => by simp [setS, setS_den l n v]
theorem act_put (fr : List SV) (d : Option Tmp) (v : SV) : act (putS fr d v) = (act fr).put d v.den := by
  cases d with
  | none => rfl
  | some d => simp [putS, act, Act.put, setS_den, List.setIfInBounds_toArray]
theorem evs_map (fr : List SV) : ∀ l : List Operand, evs fr l = l.map (act fr).eval
  | [] => rfl
  | x :: l => by simp [evs, evs_map fr l, act_eval]
theorem evs_arr (fr : List SV) (a : Array Operand) : a.map (act fr).eval = (evs fr a.toList).toArray := by
  rw [evs_map, ← Array.toList_map, Array.toArray_toList]

/-! ### Operations -/
def sameK : IntKind → IntKind → Bool
  | .i8, .i8 | .i16, .i16 | .i32, .i32 | .i64, .i64 | .u8, .u8 | .u16, .u16 | .u32, .u32 | .u64, .u64 => true
  | _, _ => false
theorem sameK_eq {k k' : IntKind} (h : sameK k k' = true) : k = k' := by cases k <;> cases k' <;> first | rfl | cases h
def isInt : RT → Bool
  | .one (.int _) => true
  | _ => false
/-- Those that only look: they need no order among themselves. -/
def quietOp (ty : List RT) (o : Oper) : Bool :=
  match o.op with
  | .move _ | .assign _ | .pick .. | .makeFunc .. | .extract .. | .unOp .. | .binOp .. | .load .. | .indexAddr .. | .fieldAddr .. | .field .. | .index .. | .slice .. | .nilCheck _ => true
  | .convert _ d _ => isInt (RT.at ty d)
  | .call { callee := .builtin b, .. } => match b with | .len | .cap | .min | .max => true | _ => false
  | _ => false
/-- Of these, those that look into memory. -/
def loadOp (o : Oper) : Bool :=
  match o.op with
  | .load .. => true
  | _ => false
def binQ (op : BinOp) (K : SV → Prop) : Value → Value → Prop
  | .int k a, .int k' b =>
    match op with
    | .add => bif sameK k k' then K (.val (.int k (k.wrap (a + b)))) else False
    | .sub => bif sameK k k' then K (.val (.int k (k.wrap (a - b)))) else False
    | .mul => bif sameK k k' then K (.val (.int k (k.wrap (a * b)))) else False
    | .quo => bif sameK k k' then b ≠ 0 ∧ K (.val (.int k (k.wrap (a.tdiv b)))) else False
    | .rem => bif sameK k k' then b ≠ 0 ∧ K (.val (.int k (a.tmod b))) else False
    | .eql => bif sameK k k' then K (.val (.bool (a == b))) else False
    | .neq => bif sameK k k' then K (.val (.bool (a != b))) else False
    | .lss => bif sameK k k' then K (.val (.bool (decide (a < b)))) else False
    | .leq => bif sameK k k' then K (.val (.bool (decide (a ≤ b)))) else False
    | .gtr => bif sameK k k' then K (.val (.bool (decide (a > b)))) else False
    | .geq => bif sameK k k' then K (.val (.bool (decide (a ≥ b)))) else False
    | .shl => 0 ≤ b ∧ K (.val (.int k (k.wrap (a * 2 ^ min b.toNat k.bits))))
    | .shr => 0 ≤ b ∧ K (.val (.int k (a.fdiv (2 ^ min b.toNat k.bits))))
    | .and => bif sameK k k' then K (.val (.int k (k.wrap (BitVec.ofInt k.bits a &&& BitVec.ofInt k.bits b).toNat))) else False
    | .or => bif sameK k k' then K (.val (.int k (k.wrap (BitVec.ofInt k.bits a ||| BitVec.ofInt k.bits b).toNat))) else False
    | .xor => bif sameK k k' then K (.val (.int k (k.wrap (BitVec.ofInt k.bits a ^^^ BitVec.ofInt k.bits b).toNat))) else False
    | .andNot => bif sameK k k' then K (.val (.int k (k.wrap (BitVec.ofInt k.bits a &&& ~~~(BitVec.ofInt k.bits b)).toNat))) else False
  | _, _ => False
def pickQ (K : SV → Prop) (x y : SV) : SV → Prop
  | .lit true => K x
  | .lit false => K y
  | .val (.bool b) => K (.val (bif b then x.den else y.den))
  | _ => False
def notQ (K : SV → Prop) : SV → Prop
  | .lit b => K (.lit (!b))
  | .val (.bool b) => K (.val (.bool (!b)))
  | _ => False
def unQ (P : Program) (op : UnOp) (t : TK) (K : SV → Prop) (x : SV) : Prop :=
  match op with
  | .not => notQ K x
  | op => QAll P (Op.unary op x.den) t fun r => K (.val (t.val r))
def extractQ (K : SV → Prop) (i : Nat) : Value → Prop
  | .tuple vs => match vs[i]? with | some v => K (.val v) | none => False
  | _ => False
def convQ (P : Program) (src dst : TypeId) (K : SV → Prop) : RT → Value → Prop
  | .one (.int k), .int k' n => QAll P (convert src dst (.int k' n)) (.int k) fun r => K (.val (.int k r))
  | _, _ => False
def optV (fr : List SV) : Option Operand → Option Value
  | none => none
  | some x => some (evV fr x)
/-- A pointer, or a function, that is not nil. -/
def NilOk (p : Value) : Prop := (∃ a, p = .pointer (some a)) ∨ (∃ f a b, p = .func (.func f) a b)
/-- A quiet operation: what it yields goes on. -/
def opQ (P : Program) (ty : List RT) (o : Oper) (fr : List SV) (w : World) (K : SV → Prop) : Prop :=
  match o.op with
  | .move x => K (evS fr x)
  | .assign x => K (evS fr x)
  | .pick c x y => pickQ K (evS fr x) (evS fr y) (evS fr c)
  | .makeFunc fn first cap => K (.val (.func fn (evs fr first.toList).toArray (evs fr cap.toList).toArray))
  | .extract x i => extractQ K i (evV fr x)
  | .unOp op _ x => unQ P op (RT.at ty o.type).tk K (evS fr x)
  | .binOp op xt x y _ => bif isInt (RT.at ty xt) then binQ op K (evV fr x) (evV fr y)
      else QAll P (do eqGuard op xt x y (evV fr x) (evV fr y); binOp op xt (evV fr x) (evV fr y)) (RT.at ty o.type).tk fun r => K (.val ((RT.at ty o.type).tk.val r))
  | .convert s d x => convQ P s d K (RT.at ty d) (evV fr x)
  | .load t p => QSub P (Instr.loadAt t (evV fr p)) w (RT.at ty o.type).tk fun r => K (.val ((RT.at ty o.type).tk.val r))
  | .indexAddr t x i => QAll P (Instr.indexAt t (evV fr x) (evV fr i)) .any fun r => K (.val r)
  | .fieldAddr s x f => QAll P (Instr.fieldAt s (evV fr x) f) .any fun r => K (.val r)
  | .field t x f => QAll P (Instr.field t (evV fr x) f) (RT.at ty o.type).tk fun r => K (.val ((RT.at ty o.type).tk.val r))
  | .index t x i => QAll P (Instr.index t (evV fr x) (evV fr i)) (RT.at ty o.type).tk fun r => K (.val ((RT.at ty o.type).tk.val r))
  | .slice t x lo hi mx => QAll P (Instr.sliceAt t (evV fr x) (optV fr lo) (optV fr hi) (optV fr mx)) (RT.at ty o.type).tk fun r => K (.val ((RT.at ty o.type).tk.val r))
  | .nilCheck x => NilOk (evV fr x) ∧ K (.val (evV fr x))
  | .call c => match c.callee with
    | .builtin .len => QAll P (Builtin.len_ c.argTypes o.type (evs fr c.args.toList).toArray) (.int .i64) fun r => K (.val (.int .i64 r))
    | .builtin .cap => QAll P (Builtin.cap_ c.argTypes o.type (evs fr c.args.toList).toArray) (.int .i64) fun r => K (.val (.int .i64 r))
    | .builtin .min => QAll P (Builtin.min_ c.argTypes o.type (evs fr c.args.toList).toArray) (RT.at ty o.type).tk fun r => K (.val ((RT.at ty o.type).tk.val r))
    | .builtin .max => QAll P (Builtin.max_ c.argTypes o.type (evs fr c.args.toList).toArray) (RT.at ty o.type).tk fun r => K (.val ((RT.at ty o.type).tk.val r))
    | _ => False
  | _ => False

theorem run_val (P : Program) (s : Sem Value) (w w' : World) (v : Value) (h : s.run P w = .ok v w') :
    (do let v ← s; pure (.value v) : Sem Next).run P w = .ok (.value v) w' := by
  rw [Sem.run_bind, h]; rfl
theorem quiet_ok {P : Program} {ty : List RT} {o : Oper} {fr : List SV} {w : World} {K : SV → Prop} (h : opQ P ty o fr w K) :
    ∃ v, K v ∧ (∀ w', Below w.heap.size w w' → (execOp (act fr).eval o).run P w' = .ok (.value v.den) w') ∧
      (loadOp o = false → ∀ w', (execOp (act fr).eval o).run P w' = .ok (.value v.den) w') := by
  have all : ∀ {s : Sem Value} {t : TK} {G : t.T → Prop}, QAll P s t G → (∀ r, G r → K (.val (t.val r))) → (execOp (act fr).eval o = (do let v ← s; pure (.value v))) →
      ∃ v, K v ∧ (∀ w', Below w.heap.size w w' → (execOp (act fr).eval o).run P w' = .ok (.value v.den) w') ∧
      (loadOp o = false → ∀ w', (execOp (act fr).eval o).run P w' = .ok (.value v.den) w') := by
    rintro s t G ⟨r, hr, hG⟩ hK he
    have run : ∀ w', (execOp (act fr).eval o).run P w' = .ok (.value (t.val r)) w' := fun w' => by
      rw [he]; exact run_val P s w' w' _ (hr w')
    exact ⟨_, hK r hG, fun w' _ => run w', fun _ w' => run w'⟩
  have now : ∀ {v : SV}, K v → (∀ w', (execOp (act fr).eval o).run P w' = .ok (.value v.den) w') →
      ∃ v, K v ∧ (∀ w', Below w.heap.size w w' → (execOp (act fr).eval o).run P w' = .ok (.value v.den) w') ∧
      (loadOp o = false → ∀ w', (execOp (act fr).eval o).run P w' = .ok (.value v.den) w') :=
    fun hK run => ⟨_, hK, fun w' _ => run w', fun _ w' => run w'⟩
  obtain ⟨dst, op, type, pos, after, guard⟩ := o
  cases op with
  | move x => exact now h fun w' => by simp only [execOp, act_eval]; rfl
  | assign x => exact now h fun w' => by simp only [execOp, act_eval]; rfl
  | pick c x y =>
    simp only [opQ] at h
    have hc : (act fr).eval c = (evS fr c).den := act_eval fr c
    have hx : (act fr).eval x = (evS fr x).den := act_eval fr x
    have hy : (act fr).eval y = (evS fr y).den := act_eval fr y
    generalize evS fr c = sc at *
    unfold pickQ at h
    split at h
    · exact now h fun w' => by simp only [execOp, hc, hx]; rfl
    · exact now h fun w' => by simp only [execOp, hc, hy]; rfl
    · rename_i b
      exact now h fun w' => by simp only [execOp, hc, hx, hy]; cases b <;> rfl
    · exact h.elim
  | makeFunc fn first cap => exact now h fun w' => by simp only [execOp, evs_arr]; rfl
  | extract x i =>
    simp only [opQ] at h
    have hx : (act fr).eval x = evV fr x := act_eval fr x
    generalize evV fr x = v at *
    unfold extractQ at h
    split at h
    · split at h
      · rename_i vs v hv
        exact now h fun w' => by simp only [execOp, hx]; exact run_val P _ _ _ _ (by simp only [Instr.extract, hv]; rfl)
      · exact h.elim
    · exact h.elim
  | unOp op t x =>
    simp only [opQ] at h
    have hx : (act fr).eval x = (evS fr x).den := act_eval fr x
    generalize evS fr x = sx at *
    unfold unQ at h
    split at h
    · unfold notQ at h
      split at h
      · exact now h fun w' => by simp only [execOp, hx]; exact run_val P _ _ _ _ rfl
      · exact now h fun w' => by simp only [execOp, hx]; exact run_val P _ _ _ _ rfl
      · exact h.elim
    · exact all h (fun r hr => hr) (by simp only [execOp, hx])
  | binOp op xt x y yt =>
    simp only [opQ] at h
    have hx : (act fr).eval x = evV fr x := act_eval fr x
    have hy : (act fr).eval y = evV fr y := act_eval fr y
    generalize evV fr x = vx at *
    generalize evV fr y = vy at *
    have guardOk : ∀ (op : BinOp) k a k' b (w' : World), (eqGuard op xt x y (.int k a) (.int k' b)).run P w' = .ok () w' := by
      intro op k a k' b w'
      cases op <;> rfl
    cases hi : isInt (RT.at ty xt) with
    | false => rw [hi] at h; exact all h (fun r hr => hr) (by simp only [execOp, hx, hy])
    | true =>
    rw [hi] at h
    simp only [cond_true] at h
    unfold binQ at h
    split at h
    · rename_i k a k' b
      have fin : ∀ {v : Value}, K (.val v) → (∀ w', (binOp op xt (.int k a) (.int k' b)).run P w' = .ok v w') → _ := fun {v} hK run => now (v := .val v) hK fun w' => by
        simp only [execOp, hx, hy]
        refine run_val P _ _ _ _ ?_
        rw [Sem.run_bind, guardOk]
        exact run w'
      split at h <;> first
        | (cases hk : sameK k k' with
            | true =>
              rw [hk] at h
              obtain rfl := sameK_eq hk
              first
                | exact fin h fun w' => by simp [binOp, Op.intArith, Op.intCmp, Op.intBits]
                | exact fin h.2 fun w' => by simp [binOp, Op.intDiv, h.1]
            | false => rw [hk] at h; exact h.elim)
        | exact fin h.2 fun w' => by simp [binOp, Op.shift, Int.not_lt.mpr h.1]
    · exact h.elim
  | convert s d x =>
    simp only [opQ] at h
    have hx : (act fr).eval x = evV fr x := act_eval fr x
    generalize evV fr x = vx at *
    unfold convQ at h
    split at h
    · exact all h (fun r hr => hr) (by simp only [execOp, hx])
    · exact h.elim
  | load t p =>
    obtain ⟨r, hr, hK⟩ := h
    refine ⟨_, hK, fun w' hw => ?_, fun hl => by cases hl⟩
    simp only [execOp, act_eval]
    exact run_val P _ _ _ _ (hr w' hw)
  | indexAddr t x i => exact all h (fun r hr => hr) (by simp only [execOp, act_eval])
  | fieldAddr s x f => exact all h (fun r hr => hr) (by simp only [execOp, act_eval])
  | field t x f => exact all h (fun r hr => hr) (by simp only [execOp, act_eval])
  | index t x i => exact all h (fun r hr => hr) (by simp only [execOp, act_eval])
  | slice t x lo hi mx =>
    have hm : ∀ q : Option Operand, q.map (act fr).eval = optV fr q := fun q => by cases q <;> simp [optV, act_eval]
    exact all h (fun r hr => hr) (by simp only [execOp, act_eval, hm])
  | nilCheck x =>
    have hx : (act fr).eval x = evV fr x := act_eval fr x
    obtain ⟨h, hK⟩ := h
    rcases h with ⟨a, ha⟩ | ⟨f, a, b, ha⟩
    · exact now hK fun w' => by simp only [execOp, hx, SV.den, ha]; rfl
    · exact now hK fun w' => by simp only [execOp, hx, SV.den, ha]; rfl
  | call c =>
    obtain ⟨callee, args, argTypes⟩ := c
    cases callee with
    | builtin b =>
      cases b <;> first | exact h.elim | exact all h (fun r hr => hr) (by simp only [execOp, resolve, evs_arr, pure_bind, invoke, builtin])
    | value f => exact h.elim
    | invoke r m => exact h.elim
  | _ => exact h.elim

/-! ### Operations that act -/
def evPairs (fr : List SV) : List (Nat × Operand) → List (Nat × Value)
  | [] => []
  | (i, x) :: l => (i, evV fr x) :: evPairs fr l
theorem evPairs_arr (fr : List SV) (a : Array (Nat × Operand)) : (a.map fun (i, x) => (i, (act fr).eval x)) = (evPairs fr a.toList).toArray := by
  have : ∀ l : List (Nat × Operand), evPairs fr l = l.map fun (i, x) => (i, (act fr).eval x) := fun l => by
    induction l with
    | nil => rfl
    | cons x l ih => obtain ⟨i, x⟩ := x; simp [evPairs, ih, act_eval]
  rw [this, ← Array.toList_map, Array.toArray_toList]
def builtinL (c : Go.Call) (type : TypeId) (args : Array Value) : Builtin → Sem Value
  | .append => Builtin.append_ c.argTypes type args
  | .copy => Builtin.copy_ c.argTypes type args
  | .delete => Builtin.delete_ c.argTypes type args
  | .clear => Builtin.clear_ c.argTypes type args
  | .len => Builtin.len_ c.argTypes type args
  | _ => stuck "builtinL"
def isL : Builtin → Bool
  | .append | .copy | .delete | .clear => true
  | _ => false
/-- An operation in its place: whatever it does, what follows goes on from there. -/
def opL (P : Program) (ty : List RT) (o : Oper) (fr : List SV) (w : World) (K : List SV → World → Prop) : Prop :=
  match o.op with
  | .call c => match c.callee with
    | .value f => callV P (evV fr f) (evs fr c.args.toList).toArray w (RT.at ty o.type) fun x w' => K (putS fr o.dst (.val ((RT.at ty o.type).val x))) w'
    | .builtin b => bif isL b then Pr P (builtinL c o.type (evs fr c.args.toList).toArray b) w (RT.at ty o.type) fun x w' => K (putS fr o.dst (.val ((RT.at ty o.type).val x))) w'
        else opQ P ty o fr w fun v => K (putS fr o.dst v) w
    | _ => False
  | .store t a x => PrU P (Instr.storeAt t (evV fr a) (evV fr x)) w fun w' => K (putS fr o.dst (.val undef)) w'
  | .mapUpdate t m k x => PrU P (Instr.mapUpdate t (evV fr m) (evV fr k) (evV fr x)) w fun w' => K (putS fr o.dst (.val undef)) w'
  | .insert t m k x => PrU P (Instr.mapUpdate t (evV fr m) (evV fr k) (evV fr x)) w fun w' => K (putS fr o.dst (.val undef)) w'
  | .alloc e => Pr P (Instr.alloc e true (.tuple #[])) w (.one .any) fun x w' => K (putS fr o.dst (.val x)) w'
  | .box e x => Pr P (Instr.box e (evV fr x)) w (.one .any) fun x w' => K (putS fr o.dst (.val x)) w'
  | .build t ps => Pr P (Instr.build t (evPairs fr ps.toList).toArray) w (.one .any) fun x w' => K (putS fr o.dst (.val x)) w'
  | .buildSlice t n ps => Pr P (Instr.buildSlice t n (evPairs fr ps.toList).toArray) w (.one .any) fun x w' => K (putS fr o.dst (.val x)) w'
  | .makeSlice t n c => Pr P (Instr.makeSlice t (evV fr n) (evV fr c)) w (.one .any) fun x w' => K (putS fr o.dst (.val x)) w'
  | .makeMap t r => Pr P (Instr.makeMap t (optV fr r)) w (.one .any) fun x w' => K (putS fr o.dst (.val x)) w'
  | .lookup t x k ok => Pr P (Instr.lookup t (evV fr x) (evV fr k) ok) w (RT.at ty o.type) fun x w' => K (putS fr o.dst (.val ((RT.at ty o.type).val x))) w'
  | .convert a b x => bif isInt (RT.at ty b) then opQ P ty o fr w fun v => K (putS fr o.dst v) w
      else Pr P (convert a b (evV fr x)) w (RT.at ty o.type) fun x w' => K (putS fr o.dst (.val ((RT.at ty o.type).val x))) w'
  | _ => opQ P ty o fr w fun v => K (putS fr o.dst v) w

theorem run_unit (P : Program) (s : Sem Unit) (w w' : World) (h : s.run P w = .ok () w') :
    (do s; pure .skip : Sem Next).run P w = .ok .skip w' := by
  rw [Sem.run_bind, h]; rfl
theorem opL_ok {P : Program} {ty : List RT} {o : Oper} {fr : List SV} {w : World} {K : List SV → World → Prop} {K' : Act → World → Prop} {Q : Exit → Act → World → Prop}
    (hK : ∀ fr w, K fr w → K' (act fr) w) (h : opL P ty o fr w K) : o.wp P (act fr) w K' Q := by
  have value : ∀ {v : Value} {w' : World}, (execOp (act fr).eval o).run P w = .ok (.value v) w' → K (putS fr o.dst (.val v)) w' → o.wp P (act fr) w K' Q := fun {v w'} hr hk => by
    unfold Oper.wp; rw [hr]; simp only [Oper.upon]
    have := hK _ _ hk
    rwa [act_put] at this
  have quiet : opQ P ty o fr w (fun v => K (putS fr o.dst v) w) → o.wp P (act fr) w K' Q := fun hq => by
    obtain ⟨v, hk, hr, _⟩ := quiet_ok hq
    unfold Oper.wp; rw [hr w (Below.refl _ _)]; simp only [Oper.upon]
    have := hK _ _ hk
    rwa [act_put] at this
  have pr : ∀ {s : Sem Value} {t : RT}, (execOp (act fr).eval o = (do let v ← s; pure (.value v))) → Pr P s w t (fun x w' => K (putS fr o.dst (.val (t.val x))) w') → o.wp P (act fr) w K' Q := by
    rintro s t he ⟨x, w', hr, hk⟩
    exact value (by rw [he]; exact run_val P _ _ _ _ hr) hk
  have pru : ∀ {s : Sem Unit}, (execOp (act fr).eval o = (do s; pure .skip)) → PrU P s w (fun w' => K (putS fr o.dst (.val undef)) w') → o.wp P (act fr) w K' Q := by
    rintro s he ⟨w', hr, hk⟩
    unfold Oper.wp; rw [he, run_unit P _ _ _ hr]; simp only [Oper.upon]
    have := hK _ _ hk
    rwa [act_put] at this
  obtain ⟨dst, op, type, pos, after, guard⟩ := o
  cases op with
  | call c =>
    obtain ⟨callee, args, argTypes⟩ := c
    cases callee with
    | value f =>
      simp only [opL, callV] at h
      split at h
      · rename_i fv g first cap hf
        obtain ⟨ent, run⟩ := h
        have hr : (execOp (act fr).eval ⟨dst, .call ⟨.value f, args, argTypes⟩, type, pos, after, guard⟩).run P w = .ok (.enter g (first ++ (evs fr args.toList).toArray ++ cap)) w := by
          simp only [execOp, resolve, evs_arr, act_eval, hf, Deferred.ofValue, pure_bind, invoke]
          exact ent _ _
        unfold Oper.wp; rw [hr]; simp only [Oper.upon]
        refine run.mono ?_
        rintro e w' ⟨x, rfl, hk⟩
        have := hK _ _ hk
        rwa [act_put] at this
      · exact h.elim
    | builtin b =>
      simp only [opL] at h
      cases hb : isL b with
      | true =>
        rw [hb] at h
        simp only [cond_true] at h
        refine pr ?_ h
        cases b <;> first | cases hb; done | simp only [execOp, resolve, evs_arr, pure_bind, invoke, builtin, builtinL]
      | false =>
        rw [hb] at h
        exact quiet h
    | invoke r m => exact h.elim
  | store t a x => exact pru (by simp only [execOp, act_eval]) h
  | mapUpdate t m k x => exact pru (by simp only [execOp, act_eval]) h
  | insert t m k x => exact pru (by simp only [execOp, act_eval]) h
  | alloc e => exact pr (t := .one .any) (by simp only [execOp]) h
  | box e x => exact pr (t := .one .any) (by simp only [execOp, act_eval]) h
  | build t ps => exact pr (t := .one .any) (by simp only [execOp, evPairs_arr]) h
  | buildSlice t n ps => exact pr (t := .one .any) (by simp only [execOp, evPairs_arr]) h
  | makeSlice t n c => exact pr (t := .one .any) (by simp only [execOp, act_eval]) h
  | makeMap t r =>
    have hm : ∀ q : Option Operand, q.map (act fr).eval = optV fr q := fun q => by cases q <;> simp [optV, act_eval]
    exact pr (t := .one .any) (by simp only [execOp, hm]) h
  | lookup t x k ok => exact pr (by simp only [execOp, act_eval]) h
  | convert a b x =>
    simp only [opL] at h
    cases hb : isInt (RT.at ty b) with
    | true => rw [hb] at h; exact quiet h
    | false => rw [hb] at h; exact pr (by simp only [execOp, act_eval]) h
  | _ => exact quiet h

/-! ### A row of operations, one behind the other -/
def wantedW (ops : Array Oper) (o : Oper) (fr : List SV) : Option Bool :=
  match o.guard with
  | none => some true
  | some (j, want) => match (ops[j]?).bind (·.dst) with
    | some t => match getS fr t with
      | .lit b => some (b == want)
      | .val (.tuple _) => some false
      | _ => none
    | none => none
def guardSrc (ops : Array Oper) (i : Nat) : Bool := ops.toList.any fun o => match o.guard with | some (j, _) => j == i | none => false
def splitFr (g : Bool) (d : Option Tmp) (fr : List SV) (K : List SV → Prop) : Prop :=
  match g, d with
  | true, some d => match getS fr d with
    | .val (.bool b) => splitB b fun b => K (setS fr d (.lit b))
    | _ => K fr
  | _, _ => K fr
def WL (P : Program) (ty : List RT) (ops : Array Oper) (K : List SV → World → Prop) : Nat → List Oper → List SV → World → Prop
  | _, [], fr, w => K fr w
  | i, o :: rest, fr, w => match wantedW ops o fr with
    | some true => opL P ty o fr w fun fr' w' => splitFr (guardSrc ops i) o.dst fr' fun fr'' => WL P ty ops K (i + 1) rest fr'' w'
    | some false => WL P ty ops K (i + 1) rest (putS fr o.dst (.val undef)) w
    | none => False

theorem map_set_same : ∀ (l : List SV) (d : Nat) (v : SV), v.den = (getS l d).den → (setS l d v).map SV.den = l.map SV.den
  | [], _, _, _ => rfl
  | x :: l, 0, v, h => by simp only [setS, List.map_cons]; rw [h]; rfl
  | x :: l, n + 1, v, h => by simp only [setS, List.map_cons]; rw [map_set_same l n v h]
theorem splitFr_ok {g : Bool} {d : Option Tmp} {fr : List SV} {K : List SV → Prop} {G : Act → Prop} (hK : ∀ fr, K fr → G (act fr)) (h : splitFr g d fr K) : G (act fr) := by
  unfold splitFr at h
  split at h
  · rename_i d
    split at h
    · rename_i b hb
      have same : ∀ c, b = c → act (setS fr d (.lit c)) = act fr := fun c hc => by
        unfold act
        rw [map_set_same fr d (.lit c) (by rw [hb]; simp [SV.den, hc])]
      cases b with
      | true => have := hK _ (h.1 rfl); rwa [same true rfl] at this
      | false => have := hK _ (h.2 rfl); rwa [same false rfl] at this
    · exact hK _ h
  · exact hK _ h
theorem wantedW_ok {ops : Array Oper} {o : Oper} {fr : List SV} {b : Bool} (h : wantedW ops o fr = some b) : Region.wanted o (yielded ops (act fr).tmps) = b := by
  unfold wantedW at h
  unfold Region.wanted
  split at h
  · rename_i hg; rw [hg]; exact Option.some.inj h
  · rename_i j want hg
    rw [hg]
    simp only
    split at h
    · rename_i t ht
      split at h
      · rename_i c hc
        have hy : yielded ops (act fr).tmps j = some c := by
          unfold yielded
          rw [ht]
          have h1 : (act fr).tmps.getD t undef = .bool c := by
            show (fr.map SV.den).toArray.getD t undef = _
            rw [← getS_den, hc]; rfl
          have h2 : (act fr).tmps[t]? = some (.bool c) := by
            cases hq : (act fr).tmps[t]? with
            | none => rw [Array.getD_eq_getD_getElem?, hq] at h1; simp [undef] at h1
            | some x => rw [Array.getD_eq_getD_getElem?, hq] at h1; simpa using h1
          simp [h2]
        rw [hy]
        have := Option.some.inj h
        rw [← this]
        cases c <;> cases want <;> rfl
      · rename_i vs hc
        have hy : yielded ops (act fr).tmps j = none := by
          unfold yielded
          rw [ht]
          have h1 : (act fr).tmps.getD t undef = .tuple vs := by
            show (fr.map SV.den).toArray.getD t undef = _
            rw [← getS_den, hc]; rfl
          cases hq : (act fr).tmps[t]? with
          | none => simp [hq]
          | some x => rw [Array.getD_eq_getD_getElem?, hq] at h1; simp at h1; simp [hq, h1]
        rw [hy]
        have := Option.some.inj h
        rw [← this]
        rfl
      · cases h
    · cases h
theorem WL_ok {P : Program} {ty : List RT} {ops : Array Oper} {K : List SV → World → Prop} {Q : Exit → Act → World → Prop} (hK : ∀ fr w, K fr w → Q .normal (act fr) w) :
    ∀ (l : List Oper) (i : Nat) (fr : List SV) (w : World), WL P ty ops K i l fr w → wpList P ops Q l (act fr) w
  | [], _, fr, w, h => hK fr w h
  | o :: l, i, fr, w, h => by
    unfold WL at h
    split at h
    · rename_i hw
      unfold wpList
      rw [if_pos (wantedW_ok hw)]
      exact .inl (opL_ok (fun fr' w' hk => splitFr_ok (G := fun a => wpList P ops Q l a w') (fun fr'' hk => WL_ok hK l (i + 1) fr'' w' hk) hk) h)
    · rename_i hw
      unfold wpList
      rw [wantedW_ok hw, if_neg (by simp)]
      have := WL_ok hK l (i + 1) _ w h
      rwa [act_put] at this
    · exact h.elim

/-! ### A region that draws its order -/
section
variable {P : Program} {ops : Array Oper} {Q : Exit → Act → World → Prop} {S : World → Prop} {B : Nat → Bool}
/-- Whatever order is picked from here on; behind each operation that B does not name, the world meets S. -/
def wpAnyC (P : Program) (ops : Array Oper) (Q : Exit → Act → World → Prop) (S : World → Prop) (B : Nat → Bool) : Nat → Array Bool → Act → World → Prop
  | 0, listed, a, w => Region.ready .any ops listed = [] ∧ Q .normal a w
  | fuel + 1, listed, a, w =>
    (Region.ready .any ops listed = [] → Q .normal a w) ∧
    ∀ i ∈ Region.ready .any ops listed, wpOp P ops Q i (fun a' w' => (B i = true → wpAny P .any ops Q fuel (listed.setIfInBounds i true) a' w') ∧
      (B i = false → S w' ∧ wpAnyC P ops Q S B fuel (listed.setIfInBounds i true) a' w')) a w
theorem wpAny_of_C : ∀ (fuel : Nat) (listed : Array Bool) (a : Act) (w : World), wpAnyC P ops Q S B fuel listed a w → wpAny P .any ops Q fuel listed a w
  | 0, _, _, _, h => h
  | fuel + 1, _, _, _, h => ⟨h.1, fun i hi => wpOp_mono (fun a' w' h' => by
      cases hb : B i with
      | true => exact h'.1 hb
      | false => exact wpAny_of_C fuel _ a' w' (h'.2 hb).2) (h.2 i hi)⟩
theorem wpAnyC_mono {S' : World → Prop} (hS : ∀ w, S w → S' w) : ∀ (fuel : Nat) (listed : Array Bool) (a : Act) (w : World), wpAnyC P ops Q S B fuel listed a w → wpAnyC P ops Q S' B fuel listed a w
  | 0, _, _, _, h => h
  | fuel + 1, _, _, _, h => ⟨h.1, fun i hi => wpOp_mono (fun a' w' h' => ⟨h'.1, fun hb => ⟨hS _ (h'.2 hb).1, wpAnyC_mono hS fuel _ a' w' (h'.2 hb).2⟩⟩) (h.2 i hi)⟩
theorem not_ready_of_waits {i : Nat} {oj : Oper} {listed : Array Bool} (hi : i ∈ Region.ready .any ops listed)
    (hall : ∀ e ∈ oj.after, Region.binds .any e = true → listed.getD e.on false = true) : ∀ e ∈ oj.after, Region.binds .any e = true → e.on ≠ i := fun e he hb heq => by
  have h1 := hall e he hb
  have h0 := (mem_ready.1 hi).1
  rw [heq] at h1
  rcases Nat.lt_or_ge i listed.size with h' | h'
  · simp [h'] at h0 h1; rw [h0] at h1; cases h1
  · simp [Array.getElem?_eq_none h'] at h1
theorem free_set {i j : Nat} {oi : Oper} {listed : Array Bool} (hjun : listed.getD j true = false)
    (hfree : ∀ j oj, ops[j]? = some oj → j ≠ i → listed.getD j true = false → (∀ e ∈ oj.after, Region.binds .any e = true → e.on ≠ i) → oi.apart ops oj = true) :
    ∀ k ok, ops[k]? = some ok → k ≠ i → (listed.setIfInBounds j true).getD k true = false → (∀ e ∈ ok.after, Region.binds .any e = true → e.on ≠ i) → oi.apart ops ok = true := fun k ok hk hki hun hno => by
  refine hfree k ok hk hki ?_ hno
  by_cases hjk : j = k
  · subst hjk; exact hjun
  · rw [getD_set_ne true hjk] at hun; exact hun
/-- One that looks into memory may be taken first: whoever turns what S keeps waits for it. -/
theorem takeC {i : Nat} {oi : Oper} {v : Value} (hi : ops[i]? = some oi) (hsel : ∀ (j : Nat) (o : Oper) cs b, ops[j]? = some o → o.op ≠ .select cs b)
    (hQ : ∀ c a w, Q (.panic c) (a.put oi.dst v) w → Q (.panic c) a w)
    (hB : ∀ j oj, ops[j]? = some oj → B j = true → ∃ e ∈ oj.after, Region.binds .any e = true ∧ e.on = i) :
    ∀ (fuel : Nat) (listed : Array Bool) (a : Act) (w : World),
      (∀ j oj, ops[j]? = some oj → j ≠ i → listed.getD j true = false → (∀ e ∈ oj.after, Region.binds .any e = true → e.on ≠ i) → oi.apart ops oj = true) →
      i ∈ Region.ready .any ops listed → YieldsIf P ops S oi v a → S w →
      wpAnyC P ops Q S B fuel (listed.setIfInBounds i true) (a.put oi.dst v) w → wpAnyC P ops Q S B (fuel + 1) listed a w := by
  intro fuel
  induction fuel with
  | zero =>
    intro listed a w _ hr hy hS H
    refine ⟨fun h => (by rw [h] at hr; cases hr), fun j hj => ?_⟩
    by_cases hji : j = i
    · subst hji; exact hy.wpOp hi hS ⟨fun _ => wpAny_of_C _ _ _ _ H, fun _ => ⟨hS, H⟩⟩
    · have := ready_mono hj hji
      rw [H.1] at this
      cases this
  | succ fuel ih =>
    intro listed a w hfree hr hy hS H
    refine ⟨fun h => (by rw [h] at hr; cases hr), fun j hj => ?_⟩
    by_cases hji : j = i
    · subst hji; exact hy.wpOp hi hS ⟨fun _ => wpAny_of_C _ _ _ _ H, fun _ => ⟨hS, H⟩⟩
    · have h1 := H.2 j (ready_mono hj hji)
      obtain ⟨hjun, oj, hoj, hall⟩ := mem_ready.1 hj
      have hnot := not_ready_of_waits hr hall
      have hbj : B j = false := by
        cases hb : B j with
        | false => rfl
        | true =>
          obtain ⟨e, he, hb1, heq⟩ := hB j oj hoj hb
          exact absurd heq (hnot e he hb1)
      have h2 := wpOp_putIf hoj (hfree j oj hoj hji hjun hnot) (fun cs b => hsel i oi cs b hi) (fun cs b => hsel j oj cs b hoj) hQ hy h1
      refine wpOp_mono (fun a' w' h3 => ⟨fun h => (by rw [hbj] at h; cases h), fun _ => ⟨(h3.2.2 hbj).1, ih (listed.setIfInBounds j true) a' w' (free_set hjun hfree) (ready_mono hr (Ne.symm hji)) h3.1 (h3.2.2 hbj).1 ?_⟩⟩) h2
      rw [Array.setIfInBounds_comm _ _ hji]
      exact (h3.2.2 hbj).2
/-- One that yields its value in whatever world may be taken first. -/
theorem takeC_any {i : Nat} {oi : Oper} {v : Value} (hi : ops[i]? = some oi) (hsel : ∀ (j : Nat) (o : Oper) cs b, ops[j]? = some o → o.op ≠ .select cs b)
    (hQ : ∀ c a w, Q (.panic c) (a.put oi.dst v) w → Q (.panic c) a w) :
    ∀ (fuel : Nat) (listed : Array Bool) (a : Act) (w : World),
      (∀ j oj, ops[j]? = some oj → j ≠ i → listed.getD j true = false → (∀ e ∈ oj.after, Region.binds .any e = true → e.on ≠ i) → oi.apart ops oj = true) →
      i ∈ Region.ready .any ops listed → Yields P ops oi v a → S w →
      wpAnyC P ops Q S B fuel (listed.setIfInBounds i true) (a.put oi.dst v) w → wpAnyC P ops Q S B (fuel + 1) listed a w := by
  intro fuel
  induction fuel with
  | zero =>
    intro listed a w _ hr hy hS H
    refine ⟨fun h => (by rw [h] at hr; cases hr), fun j hj => ?_⟩
    by_cases hji : j = i
    · subst hji; exact hy.wpOp hi ⟨fun _ => wpAny_of_C _ _ _ _ H, fun _ => ⟨hS, H⟩⟩
    · have := ready_mono hj hji
      rw [H.1] at this
      cases this
  | succ fuel ih =>
    intro listed a w hfree hr hy hS H
    refine ⟨fun h => (by rw [h] at hr; cases hr), fun j hj => ?_⟩
    by_cases hji : j = i
    · subst hji; exact hy.wpOp hi ⟨fun _ => wpAny_of_C _ _ _ _ H, fun _ => ⟨hS, H⟩⟩
    · have h1 := H.2 j (ready_mono hj hji)
      obtain ⟨hjun, oj, hoj, hall⟩ := mem_ready.1 hj
      have hnot := not_ready_of_waits hr hall
      have h2 := wpOp_put hoj (hfree j oj hoj hji hjun hnot) (fun cs b => hsel i oi cs b hi) (fun cs b => hsel j oj cs b hoj) hQ hy h1
      refine wpOp_mono (fun a' w' h3 => ⟨fun hb => ?_, fun hb => ⟨(h3.2.2 hb).1, ih (listed.setIfInBounds j true) a' w' (free_set hjun hfree) (ready_mono hr (Ne.symm hji)) h3.1 (h3.2.2 hb).1 ?_⟩⟩) h2
      · refine wpAny_first hi hsel hQ fuel (listed.setIfInBounds j true) a' w' (free_set hjun hfree) (ready_mono hr (Ne.symm hji)) h3.1 ?_
        rw [Array.setIfInBounds_comm _ _ hji]
        exact h3.2.1 hb
      · rw [Array.setIfInBounds_comm _ _ hji]
        exact (h3.2.2 hb).2
end
def waitsOn (ops : Array Oper) (j i : Nat) : Bool :=
  match ops[j]? with
  | some oj => oj.after.any fun e => Region.binds .any e && e.on == i
  | none => false
/-- Those that wait for all that look into memory. -/
def lastB (ty : List RT) (ops : Array Oper) (j : Nat) : Bool :=
  (match ops[j]? with | some o => !quietOp ty o | none => false) &&
  (List.range ops.size).all fun i => match ops[i]? with | some o => !loadOp o || waitsOn ops j i | none => true
def pickD (ty : List RT) (ops : Array Oper) (listed : Array Bool) (fr : List SV) : List Nat → Option Nat
  | [] => none
  | i :: r => match ops[i]? with
    | some o => bif ((quietOp ty o || (match wantedW ops o fr with | some false => true | _ => false)) && Region.free .any ops listed i) then some i else pickD ty ops listed fr r
    | none => pickD ty ops listed fr r
def allD (f : Nat → Prop) : List Nat → Prop
  | [] => True
  | [i] => f i
  | i :: j :: r => f i ∧ allD f (j :: r)
/-- Whether one that looks into memory is still to come. -/
def pend (ops : Array Oper) (listed : Array Bool) : Bool :=
  (List.range ops.size).any fun i => match ops[i]? with | some o => loadOp o && !listed.getD i true | none => false
theorem pend_set {ops : Array Oper} {listed : Array Bool} {i : Nat} (h : pend ops (listed.setIfInBounds i true) = true) : pend ops listed = true := by
  unfold pend at h ⊢
  rw [List.any_eq_true] at h ⊢
  obtain ⟨k, hk, hp⟩ := h
  refine ⟨k, hk, ?_⟩
  split at hp
  · rename_i o ho
    simp only [Bool.and_eq_true, Bool.not_eq_true'] at hp ⊢
    refine ⟨hp.1, ?_⟩
    by_cases hik : i = k
    · subst hik
      have := hp.2
      by_cases hl : i < listed.size
      · simp [hl] at this
      · simp [hl] at this
    · rw [getD_set_ne true hik] at hp; exact hp.2
  · cases hp
theorem pend_load {ops : Array Oper} {listed : Array Bool} {i : Nat} {o : Oper} (ho : ops[i]? = some o) (hl : loadOp o = true) (hi : i ∈ Region.ready .any ops listed) : pend ops listed = true := by
  unfold pend
  rw [List.any_eq_true]
  refine ⟨i, List.mem_range.2 (Array.getElem?_eq_some_iff.1 ho).1, ?_⟩
  simp [ho, hl, (mem_ready.1 hi).1]
def sOf : Option World → World → Prop
  | none, _ => True
  | some wr, w => Below wr.heap.size wr w
def keepsO : Option World → World → Prop → Prop
  | none, _, K => K
  | some wr, w', K => Keeps wr w' K
/-- wr: the world that those which are still to look, or have looked, hold on to. -/
def WD (P : Program) (ty : List RT) (ops : Array Oper) (K : List SV → World → Prop) : Nat → Array Bool → List SV → World → Option World → Prop
  | 0, listed, fr, w, _ => bif (Region.ready .any ops listed).isEmpty then K fr w else False
  | n + 1, listed, fr, w, wr =>
    match Region.ready .any ops listed with
    | [] => K fr w
    | i0 :: r => match pickD ty ops listed fr (i0 :: r) with
      | some i => match ops[i]? with
        | some o => match wantedW ops o fr with
          | some true => bif quietOp ty o then opQ P ty o fr w fun v => splitFr (guardSrc ops i) o.dst (putS fr o.dst v) fun fr' => WD P ty ops K n (listed.setIfInBounds i true) fr' w wr else False
          | some false => WD P ty ops K n (listed.setIfInBounds i true) (putS fr o.dst (.val undef)) w wr
          | none => False
        | none => False
      | none => allD (fun i => match ops[i]? with
        | some o => match wantedW ops o fr with
          | some true => opL P ty o fr w fun fr' w' => splitFr (guardSrc ops i) o.dst fr' fun fr'' =>
              bif lastB ty ops i then WD P ty ops K n (listed.setIfInBounds i true) fr'' w' (bif pend ops (listed.setIfInBounds i true) then some w' else none)
              else bif pend ops listed then Keeps w w' (WD P ty ops K n (listed.setIfInBounds i true) fr'' w' (some w'))
              else keepsO wr w' (WD P ty ops K n (listed.setIfInBounds i true) fr'' w' wr)
          | _ => False
        | none => False) (i0 :: r)
theorem allD_all {f : Nat → Prop} : ∀ {l : List Nat}, allD f l → ∀ i ∈ l, f i
  | [], _, _, hi => by cases hi
  | [i], h, j, hj => by simp at hj; subst hj; exact h
  | i :: k :: r, h, j, hj => by
    cases hj with
    | head => exact h.1
    | tail _ hj => exact allD_all h.2 j hj
theorem pickD_ok {ty : List RT} {ops : Array Oper} {listed : Array Bool} {fr : List SV} {i : Nat} : ∀ {l : List Nat}, pickD ty ops listed fr l = some i → i ∈ l ∧ Region.free .any ops listed i = true
  | [], h => by cases h
  | k :: r, h => by
    unfold pickD at h
    split at h
    · rename_i o ho
      generalize hb : ((quietOp ty o || _) && _) = b at h
      cases b with
      | true =>
        have : k = i := Option.some.inj h
        subst this
        exact ⟨List.mem_cons_self, by simp at hb; exact hb.2⟩
      | false => exact ⟨List.mem_cons_of_mem _ (pickD_ok h).1, (pickD_ok h).2⟩
    · exact ⟨List.mem_cons_of_mem _ (pickD_ok h).1, (pickD_ok h).2⟩
theorem lastB_waits {ty : List RT} {ops : Array Oper} {i j : Nat} {oi oj : Oper} (hi : ops[i]? = some oi) (hl : loadOp oi = true) (hj : ops[j]? = some oj) (h : lastB ty ops j = true) :
    ∃ e ∈ oj.after, Region.binds .any e = true ∧ e.on = i := by
  unfold lastB at h
  simp only [Bool.and_eq_true, List.all_eq_true, List.mem_range] at h
  have := h.2 i (Array.getElem?_eq_some_iff.1 hi).1
  simp only [hi, hl, Bool.not_true, Bool.false_or] at this
  unfold waitsOn at this
  rw [hj] at this
  obtain ⟨e, he, hb⟩ := Array.any_eq_true'.1 this
  simp only [Bool.and_eq_true, beq_iff_eq] at hb
  exact ⟨e, he, hb.1, hb.2⟩
theorem WD_ok {P : Program} {ty : List RT} {ops : Array Oper} {K : List SV → World → Prop} {Q : Exit → Act → World → Prop} (hs : Region.noSelect ops = true)
    (hK : ∀ fr w, K fr w → Q .normal (act fr) w) (hQ : ∀ c d v a w, Q (.panic c) (a.put d v) w → Q (.panic c) a w) :
    ∀ (n : Nat) (listed : Array Bool) (fr : List SV) (w : World) (wr : Option World), sOf wr w → (pend ops listed = true → wr = some w) → WD P ty ops K n listed fr w wr → wpAnyC P ops Q (sOf wr) (lastB ty ops) n listed (act fr) w := by
  intro n
  induction n with
  | zero =>
    intro listed fr w wr hwr hpr h
    unfold WD at h
    cases hr : (Region.ready .any ops listed).isEmpty with
    | true => rw [hr] at h; exact ⟨by simpa using hr, hK _ _ h⟩
    | false => rw [hr] at h; exact h.elim
  | succ n ih =>
    intro listed fr w wr hwr hpr h
    unfold WD at h
    split at h
    · rename_i hr
      exact ⟨fun _ => hK _ _ h, by rw [hr]; intro i hi; cases hi⟩
    · rename_i i0 r hr
      split at h
      · rename_i i hp
        obtain ⟨him, hfree⟩ := pickD_ok hp
        rw [← hr] at him
        split at h
        · rename_i o ho
          have hfr := Region.free_spec ho hfree
          split at h
          · rename_i hw
            cases hq : quietOp ty o with
            | false => rw [hq] at h; exact h.elim
            | true =>
              rw [hq] at h
              simp only [cond_true] at h
              obtain ⟨v, hk, hsub, hany⟩ := quiet_ok h
              have hk' : wpAnyC P ops Q (sOf wr) (lastB ty ops) n (listed.setIfInBounds i true) ((act fr).put o.dst v.den) w := by
                rw [← act_put]
                exact splitFr_ok (G := fun a => wpAnyC P ops Q (sOf wr) (lastB ty ops) n (listed.setIfInBounds i true) a w) (fun fr' hk => ih _ _ _ _ hwr (fun hp => hpr (pend_set hp)) hk) hk
              cases hl : loadOp o with
              | true => exact takeC ho (Region.noSelect_spec hs) (fun c a w => hQ c _ _ a w) (fun j oj hj hb => lastB_waits ho hl hj hb) n listed (act fr) w hfr him (.inl ⟨wantedW_ok hw, by rw [hpr (pend_load ho hl him)]; exact hsub⟩) hwr hk'
              | false => exact takeC_any ho (Region.noSelect_spec hs) (fun c a w => hQ c _ _ a w) n listed (act fr) w hfr him (.inl ⟨wantedW_ok hw, hany hl⟩) hwr hk'
          · rename_i hw
            have hk' := ih _ _ _ _ hwr (fun hp => hpr (pend_set hp)) h
            rw [act_put] at hk'
            exact takeC_any ho (Region.noSelect_spec hs) (fun c a w => hQ c _ _ a w) n listed (act fr) w hfr him (.inr ⟨wantedW_ok hw, rfl⟩) hwr hk'
          · exact h.elim
        · exact h.elim
      · refine ⟨fun h0 => (by rw [h0] at hr; cases hr), fun i hi => ?_⟩
        rw [hr] at hi
        have h' := allD_all h i hi
        unfold wpOp
        split at h'
        · rename_i o ho
          split at h'
          · rename_i hw
            simp only [ho]
            rw [if_pos (wantedW_ok hw)]
            refine .inl (opL_ok (fun fr' w' hk => splitFr_ok (G := fun a => (lastB ty ops i = true → wpAny P .any ops Q n (listed.setIfInBounds i true) a w') ∧
              (lastB ty ops i = false → sOf wr w' ∧ wpAnyC P ops Q (sOf wr) (lastB ty ops) n (listed.setIfInBounds i true) a w')) (fun fr'' hk2 => ?_) hk) h')
            clear h'
            cases hb : lastB ty ops i with
            | true =>
              rw [hb] at hk2
              refine ⟨fun _ => wpAny_of_C _ _ _ _ (ih _ _ _ _ ?_ (fun hp => by rw [hp]; rfl) hk2), fun h => (by cases h)⟩
              cases pend ops (listed.setIfInBounds i true) with
              | true => exact Below.refl _ _
              | false => exact True.intro
            | false =>
              rw [hb] at hk2
              cases hp : pend ops listed with
              | true =>
                rw [hp] at hk2
                obtain ⟨hbel, hk2⟩ := hk2
                have hw := hpr hp
                subst hw
                exact ⟨fun h => (by cases h), fun _ => ⟨hbel, wpAnyC_mono (fun w'' hb'' => hbel.trans (hb''.mono hbel.size)) _ _ _ _ (ih _ _ _ (some _) (Below.refl _ _) (fun _ => rfl) hk2)⟩⟩
              | false =>
                rw [hp] at hk2
                have hk3 : sOf wr w' ∧ WD P ty ops K n (listed.setIfInBounds i true) fr'' w' wr := by
                  cases wr with
                  | none => exact ⟨True.intro, hk2⟩
                  | some w0 => exact ⟨hk2.below, hk2.k⟩
                obtain ⟨hbel, hk2⟩ := hk3
                exact ⟨fun h => (by cases h), fun _ => ⟨hbel, ih _ _ _ _ hbel (fun h => by have := pend_set h; rw [hp] at this; cases this) hk2⟩⟩
          · exact h'.elim
        · exact h'.elim

/-! ### Code -/
abbrev Post := Exit → List SV → World → Prop
def thenW (next : List SV → World → Prop) (Φ : Post) : Post
  | .normal, fr, w => next fr w
  | e, fr, w => Φ e fr w
def blockW (id : Nat) (Φ : Post) : Post
  | .exit id', fr, w => bif id' == id then Φ .normal fr w else Φ (.exit id') fr w
  | e, fr, w => Φ e fr w
def condW (x y : Prop) : SV → Prop
  | .lit true => x
  | .lit false => y
  | .val (.bool b) => splitB b fun b => bif b then x else y
  | _ => False
/-- A world that has drawn once more. -/
def Drew (w w' : World) : Prop := w' = w.drewN 1
theorem Drew.heap {w w' : World} (h : Drew w w') : w'.heap = w.heap := by unfold Drew at h; subst h; rfl
theorem Drew.below {w w' : World} (h : Drew w w') (B : Nat) : Below B w w' := by unfold Drew at h; subst h; exact ⟨rfl, rfl, rfl, Nat.le_refl _, fun _ _ => rfl⟩
def W (P : Program) (ty : List RT) (LW : Code → Post → List SV → World → Prop) : Code → Post → List SV → World → Prop
  | .skip, Φ, fr, w => Φ .normal fr w
  | .label _, Φ, fr, w => Φ .normal fr w
  | .seq x y, Φ, fr, w => W P ty LW x (thenW (W P ty LW y Φ) Φ) fr w
  | .cond c x y, Φ, fr, w => condW (W P ty LW x Φ fr w) (W P ty LW y Φ fr w) (evS fr c)
  | .block id c, Φ, fr, w => W P ty LW c (blockW id Φ) fr w
  | .exit id, Φ, fr, w => Φ (.exit id) fr w
  | .ret, Φ, fr, w => Φ .ret fr w
  | .region _ ops d, Φ, fr, w =>
    bif d then ∀ w', Drew w w' → (bif Region.noSelect ops then WD P ty ops (Φ .normal) ops.size (Array.replicate ops.size false) fr w' (some w') else False)
    else WL P ty ops (Φ .normal) 0 ops.toList fr w
  | .loop c, Φ, fr, w => LW c Φ fr w
  | _, _, _, _ => False
/-- The same, said of the machine's frames. -/
def up (Φ : Post) : Exit → Act → World → Prop := fun e a w => ∃ fr, act fr = a ∧ Φ e fr w
def Sound (P : Program) (LW : Code → Post → List SV → World → Prop) : Prop := ∀ c Φ fr w, LW c Φ fr w → (Code.loop c).wp P (up Φ) (act fr) w
theorem W_ok {P : Program} {ty : List RT} {LW : Code → Post → List SV → World → Prop} (hm : P.follows .mixedOrders = true) (hL : Sound P LW) :
    ∀ (c : Code) (Φ : Post) (fr : List SV) (w : World), W P ty LW c Φ fr w → c.wp P (up Φ) (act fr) w
  | .skip, Φ, fr, w, h => wp_skip ⟨fr, rfl, h⟩
  | .label _, Φ, fr, w, h => wp_label ⟨fr, rfl, h⟩
  | .exit _, Φ, fr, w, h => wp_exit ⟨fr, rfl, h⟩
  | .ret, Φ, fr, w, h => wp_ret ⟨fr, rfl, h⟩
  | .seq x y, Φ, fr, w, h => by
    refine wp_seq (wp_mono (W_ok hm hL x _ fr w h) ?_)
    rintro e a w' ⟨fr', rfl, h'⟩
    cases e <;> first | exact W_ok hm hL y Φ fr' w' h' | exact ⟨fr', rfl, h'⟩
  | .cond c x y, Φ, fr, w, h => by
    have hc : (act fr).eval c = (evS fr c).den := act_eval fr c
    simp only [W] at h
    generalize evS fr c = sc at *
    unfold condW at h
    split at h
    · exact wp_cond_true hc (W_ok hm hL x Φ fr w h)
    · exact wp_cond_false hc (W_ok hm hL y Φ fr w h)
    · rename_i b
      cases b with
      | true => exact wp_cond_true hc (W_ok hm hL x Φ fr w (h.1 rfl))
      | false => exact wp_cond_false hc (W_ok hm hL y Φ fr w (h.2 rfl))
    · exact h.elim
  | .block id c, Φ, fr, w, h => by
    refine wp_block (wp_mono (W_ok hm hL c _ fr w h) ?_)
    rintro e a w' ⟨fr', rfl, h'⟩
    cases e <;> first
      | (rename_i id'
         simp only [blockW] at h'
         simp only [Exit.inBlock]
         cases hb : (id' == id) with
         | true => rw [hb] at h'; rw [if_pos (by simpa using hb)]; exact ⟨fr', rfl, h'⟩
         | false => rw [hb] at h'; rw [if_neg (by simpa using hb)]; exact ⟨fr', rfl, h'⟩)
      | exact ⟨fr', rfl, h'⟩
  | .region id ops d, Φ, fr, w, h => by
    cases d with
    | false =>
      refine wp_region_list (WL_ok (K := Φ .normal) (fun fr' w' hk => ⟨fr', rfl, hk⟩) ops.toList 0 fr w h)
    | true =>
      have h' := h (w.drewN 1) rfl
      cases hs : Region.noSelect ops with
      | false => rw [hs] at h'; exact h'.elim
      | true =>
        rw [hs] at h'
        refine wp_region_noPanic (wp_region_any hm (wpAny_of_C _ _ _ _ (WD_ok (K := Φ .normal) hs (fun fr' w' hk => ?_) ?_ _ _ _ _ (some _) (Below.refl _ _) (fun _ => rfl) h')))
        · exact ⟨fr', rfl, hk⟩
        · intro c d v a w hq; exact hq
  | .loop c, Φ, fr, w, h => hL c Φ fr w h
  | .rangeFunc .., _, _, _, h => h.elim
  | .goto _, _, _, _, h => h.elim
  | .scope _, _, _, _, h => h.elim
  | .refuse _, _, _, _, h => h.elim

/-! ### Frames with open places -/
inductive Slot where
  | junk | k (t : TK)
def Vals : List Slot → Type
  | [] => Unit
  | .junk :: r => Vals r
  | .k t :: r => t.T × Vals r
def shape1 : TK → Value → Bool
  | .int k, .int k' _ => sameK k k'
  | .bool, .bool _ => true
  | .str, .string _ => true
  | .any, _ => true
  | _, _ => false
def ext1 : (t : TK) → Value → t.T
  | .int _, .int _ n => n
  | .int _, _ => (0 : Int)
  | .bool, .bool b => b
  | .bool, _ => false
  | .str, .string s => s
  | .str, _ => ByteArray.empty
  | .any, v => v
def shapeT : List Slot → List SV → Bool
  | [], [] => true
  | .junk :: r, _ :: fr => shapeT r fr
  | .k t :: r, x :: fr => shape1 t x.den && shapeT r fr
  | _, _ => false
def extT : (sp : List Slot) → List SV → Vals sp
  | [], _ => ()
  | .junk :: r, fr => extT r fr.tail
  | .k t :: r, fr => (ext1 t (getS fr 0).den, extT r fr.tail)
def mkT (j : Nat → Value) : Nat → (sp : List Slot) → Vals sp → List SV
  | _, [], _ => []
  | i, .junk :: r, v => .val (j i) :: mkT j (i + 1) r v
  | i, .k t :: r, v => .val (t.val v.1) :: mkT j (i + 1) r v.2
theorem shape1_ok {t : TK} {v : Value} (h : shape1 t v = true) : v = t.val (ext1 t v) := by
  unfold shape1 at h
  split at h <;> first | rfl | (rw [sameK_eq h]; rfl) | cases h
theorem shapeT_ok : ∀ (sp : List Slot) (fr : List SV), shapeT sp fr = true → ∀ (j : Nat → Value) (i : Nat), (∀ n, j (i + n) = (getS fr n).den) → fr.map SV.den = (mkT j i sp (extT sp fr)).map SV.den
  | [], [], _, _, _, _ => rfl
  | .junk :: r, x :: fr, h, j, i, hj => by
    have h0 : j i = x.den := hj 0
    have := shapeT_ok r fr h j (i + 1) (fun n => by have := hj (n + 1); rwa [show i + (n + 1) = i + 1 + n from by omega] at this)
    simp only [List.map_cons, mkT, extT, List.tail_cons]
    rw [h0, this]
    rfl
  | .k t :: r, x :: fr, h, j, i, hj => by
    simp only [shapeT, Bool.and_eq_true] at h
    have := shapeT_ok r fr h.2 j (i + 1) (fun n => by have := hj (n + 1); rwa [show i + (n + 1) = i + 1 + n from by omega] at this)
    simp only [List.map_cons, mkT, extT, List.tail_cons, getS]
    rw [this]
    congr 1
    exact shape1_ok h.1
  | [], _ :: _, h, _, _, _ => by cases h
  | .junk :: _, [], h, _, _, _ => by cases h
  | .k _ :: _, [], h, _, _, _ => by cases h
theorem shape_mk {sp : List Slot} {fr : List SV} (h : shapeT sp fr = true) : ∃ j, act fr = act (mkT j 0 sp (extT sp fr)) :=
  ⟨fun n => (getS fr n).den, by unfold act; rw [shapeT_ok sp fr h (fun n => (getS fr n).den) 0 (fun n => by simp)]⟩
structure Door where
  sp : List Slot
  D : Vals sp → World → Prop
def doorW (d : Door) (fr : List SV) (w : World) : Prop := bif shapeT d.sp fr then d.D (extT d.sp fr) w else False
def doorOf (Φ : Post) (e : Exit) (sp : List Slot) : Door := ⟨sp, fun v w => ∀ j, Φ e (mkT j 0 sp v) w⟩
def doorsW : List (Nat × Door) → Nat → List SV → World → Prop
  | [], _, _, _ => False
  | (k, d) :: r, n, fr, w => bif n == k then doorW d fr w else doorsW r n fr w
def loopPost (sp : List Slot) (exits : List (Nat × Door)) (ret : Door) (N : Vals sp → World → Prop) : Post
  | .normal, fr, w => doorW ⟨sp, N⟩ fr w
  | .exit k, fr, w => doorsW exits k fr w
  | .ret, fr, w => doorW ret fr w
  | _, _, _ => False
theorem doorOf_ok {Φ : Post} {e : Exit} {sp : List Slot} {fr : List SV} {w : World} (h : doorW (doorOf Φ e sp) fr w) : up Φ e (act fr) w := by
  unfold doorW at h
  cases hs : shapeT (doorOf Φ e sp).sp fr with
  | false => rw [hs] at h; exact h.elim
  | true =>
    rw [hs] at h
    obtain ⟨j, hj⟩ := shape_mk hs
    exact ⟨_, hj.symm, h j⟩
theorem doorsOf_ok {Φ : Post} {fr : List SV} {w : World} {n : Nat} : ∀ {l : List (Nat × List Slot)}, doorsW (l.map fun x => (x.1, doorOf Φ (.exit x.1) x.2)) n fr w → up Φ (.exit n) (act fr) w
  | [], h => h.elim
  | (k, sp) :: r, h => by
    simp only [List.map_cons, doorsW] at h
    cases hb : (n == k) with
    | true =>
      rw [hb] at h
      have : n = k := by simpa using hb
      subst this
      exact doorOf_ok h
    | false => rw [hb] at h; exact doorsOf_ok h
/-- A loop: what holds at each round's head, and a measure that each round lowers. -/
structure LOOP {U S : Type} (u : U) (body : (U → S → World → Prop) → S → World → Prop) (s : S) (w : World) : Prop where
  ex : ∃ (I : S → World → Prop) (μ : S → World → Nat), I s w ∧ ∀ s w, I s w → body (fun u' s' w' => u' = u ∧ I s' w' ∧ μ s' w' < μ s w) s w
/-- The loop's own code, held against the one that was read. -/
structure At (c c' : Code) (X : Prop) : Prop where
  eq : c = c'
  x : X
theorem loop_ok {P : Program} {ty : List RT} {LW : Code → Post → List SV → World → Prop} (hm : P.follows .mixedOrders = true) (hL : Sound P LW) {c : Code} (sp : List Slot) {U S : Type}
    (pu : Vals sp → U) (ps : Vals sp → S) (pk : U → S → Vals sp) (hpk : ∀ v, pk (pu v) (ps v) = v) (exits : List (Nat × List Slot)) (ret : List Slot) {Φ : Post}
    {body : U → (U → S → World → Prop) → S → World → Prop}
    (hround : ∀ j u s w (N : U → S → World → Prop), body u N s w → W P ty LW c (loopPost sp (exits.map fun x => (x.1, doorOf Φ (.exit x.1) x.2)) (doorOf Φ .ret ret) (fun v w => N (pu v) (ps v) w)) (mkT j 0 sp (pk u s)) w)
    {fr : List SV} {w : World} (hs : shapeT sp fr = true) (h : LOOP (pu (extT sp fr)) (body (pu (extT sp fr))) (ps (extT sp fr)) w) : (Code.loop c).wp P (up Φ) (act fr) w := by
  obtain ⟨I, μ, h0, hI⟩ := h
  generalize hu : pu (extT sp fr) = u at *
  generalize hss : ps (extT sp fr) = s at *
  let get : Act → S := fun a => ps (extT sp (a.tmps.toList.map SV.val))
  have getmk : ∀ fr, get (act fr) = ps (extT sp fr) := by
    have : ∀ (sp : List Slot) (fr : List SV), extT sp ((fr.map SV.den).map SV.val) = extT sp fr := by
      intro sp
      induction sp with
      | nil => intro fr; rfl
      | cons x r ih =>
        intro fr
        cases x with
        | junk =>
          cases fr with
          | nil => rfl
          | cons y fr => exact ih fr
        | k t =>
          cases fr with
          | nil => rfl
          | cons y fr => simp only [extT, List.map_cons, List.tail_cons, getS, SV.den]; rw [ih]
    intro fr
    show ps (extT sp ((act fr).tmps.toList.map SV.val)) = _
    rw [show (act fr).tmps.toList = fr.map SV.den from by simp [act], this]
  refine wp_loop (fun a w => ∃ fr, act fr = a ∧ shapeT sp fr = true ∧ pu (extT sp fr) = u ∧ I (ps (extT sp fr)) w) (fun a w => μ (get a) w) ⟨fr, rfl, hs, hu, by rw [hss]; exact h0⟩ ?_
  rintro a w ⟨fr, rfl, hs, hu, hi⟩
  obtain ⟨j, hj⟩ := shape_mk hs
  have hb := hround j u (ps (extT sp fr)) w _ (hI _ _ hi)
  rw [← hu, hpk] at hb
  have := W_ok hm hL c _ _ _ hb
  rw [hj]
  refine wp_mono this ?_
  rintro e a' w' ⟨fr', rfl, h'⟩
  cases e with
  | normal =>
    simp only [loopPost, doorW] at h'
    cases hs' : shapeT sp fr' with
    | false => rw [hs'] at h'; exact h'.elim
    | true =>
      rw [hs'] at h'
      obtain ⟨e1, e2, e3⟩ := h'
      refine ⟨⟨fr', rfl, hs', e1.trans hu, e2⟩, ?_⟩
      show μ (get (act fr')) w' < μ (get (act _)) w
      rw [← hj, getmk, getmk]
      exact e3
  | exit k => exact doorsOf_ok h'
  | ret => exact doorOf_ok h'
  | goto l => exact h'.elim
  | panic ch => exact h'.elim
  | outgrown => exact h'.elim

/-! ### Functions -/
def typed1 : (t : TK) → (t.T → Prop) → Value → Prop
  | .int k, K, .int k' n => bif sameK k k' then K n else False
  | .bool, K, .bool b => K b
  | .str, K, .string s => K s
  | .any, K, v => K v
  | _, _, _ => False
theorem typed1_ok {t : TK} {K : t.T → Prop} {v : Value} (h : typed1 t K v) : ∃ x, v = t.val x ∧ K x := by
  cases t with
  | int k =>
    cases v <;> first
      | exact h.elim
      | (rename_i k' n
         simp only [typed1] at h
         cases hb : sameK k k' with
         | true => rw [hb] at h; exact ⟨n, by rw [sameK_eq hb], h⟩
         | false => rw [hb] at h; exact h.elim)
  | bool => cases v <;> first | exact h.elim | exact ⟨_, rfl, h⟩
  | str => cases v <;> first | exact h.elim | exact ⟨_, rfl, h⟩
  | any => exact ⟨v, rfl, by cases v <;> exact h⟩
def typedR : (t : RT) → (t.T → World → Prop) → World → List Value → Prop
  | .one t, K, w, [v] => typed1 t (fun x => K x w) v
  | .two a b, K, w, [x, y] => typed1 a (fun x => typed1 b (fun y => K (x, y) w) y) x
  | .three a b c, K, w, [x, y, z] => typed1 a (fun x => typed1 b (fun y => typed1 c (fun z => K (x, y, z) w) z) y) x
  | .unit, K, w, [] => K () w
  | _, _, _, _ => False
def oneOr (vs : List Value) : Value := match vs with | [v] => v | vs => .tuple vs.toArray
theorem typedR_ok {t : RT} {K : t.T → World → Prop} {w : World} {vs : List Value} (h : typedR t K w vs) : ∃ x, oneOr vs = t.val x ∧ K x w := by
  unfold typedR at h
  split at h
  · obtain ⟨x, rfl, h1⟩ := typed1_ok h
    exact ⟨x, rfl, h1⟩
  · obtain ⟨x, rfl, h1⟩ := typed1_ok h
    obtain ⟨y, rfl, h2⟩ := typed1_ok h1
    exact ⟨(x, y), rfl, h2⟩
  · obtain ⟨x, rfl, h1⟩ := typed1_ok h
    obtain ⟨y, rfl, h2⟩ := typed1_ok h1
    obtain ⟨z, rfl, h3⟩ := typed1_ok h2
    exact ⟨(x, y, z), rfl, h3⟩
  · exact ⟨(), rfl, h⟩
  · exact h.elim
def resW (P : Program) (fr : List SV) (w : World) (t : RT) (K : t.T → World → Prop) : List ResultVar → List Value → Prop
  | [], acc => typedR t K w acc
  | .tmp s :: r, acc => resW P fr w t K r (acc ++ [(getS fr s).den])
  | .cell a e :: r, acc => QSub P (Instr.loadAt e (getS fr a).den) w .any fun v => resW P fr w t K r (acc ++ [v])
theorem resW_ok {P : Program} {fr : List SV} {w : World} {t : RT} {K : t.T → World → Prop} {f : ResultVar → Sem Value}
    (hf1 : ∀ s, f (.tmp s) = pure (getS fr s).den) (hf2 : ∀ a e v, (Instr.loadAt e (getS fr a).den).run P w = .ok v w → (f (.cell a e)).run P w = .ok v w) :
    ∀ (rs : List ResultVar) (acc : List Value), resW P fr w t K rs acc → ∃ vs, (rs.mapM f).run P w = .ok vs w ∧ typedR t K w (acc ++ vs)
  | [], acc, h => ⟨[], by simp, by rw [List.append_nil]; exact h⟩
  | .tmp s :: r, acc, h => by
    obtain ⟨vs, h1, h2⟩ := resW_ok hf1 hf2 r _ h
    refine ⟨(getS fr s).den :: vs, ?_, by simpa using h2⟩
    simp [List.mapM_cons, hf1, h1]
  | .cell a e :: r, acc, h => by
    obtain ⟨v, hv, h⟩ := h
    obtain ⟨vs, h1, h2⟩ := resW_ok hf1 hf2 r _ h
    refine ⟨v :: vs, ?_, by simpa using h2⟩
    simp [List.mapM_cons, hf2 a e v (hv w (Below.refl _ _)), h1]
def fnPost (P : Program) (rs : List ResultVar) (t : RT) (K : t.T → World → Prop) : Post
  | .normal, fr, w => resW P fr w t K rs []
  | .ret, fr, w => resW P fr w t K rs []
  | _, _, _ => False
def frame0 (args : List Value) (n : Nat) : List SV := args.map SV.val ++ List.replicate (n - args.length) (.val undef)
theorem results_ok {P : Program} {fn : Func} {fr : List SV} {w : World} {t : RT} {K : t.T → World → Prop} (h : resW P fr w t K fn.results.toList []) :
    ∃ x, (results fn (act fr).tmps).run P w = .ok (t.val x) w ∧ K x w := by
  have hg : ∀ s, (act fr).tmps.getD s undef = (getS fr s).den := fun s => (getS_den fr s).symm
  unfold results
  generalize hF : (fun | .tmp t => pure ((act fr).tmps.getD t undef) | .cell a t => do loadVar t (← asAddr ((act fr).tmps.getD a undef)) : ResultVar → Sem Value) = F
  obtain ⟨vs, h1, h2⟩ := resW_ok (f := F) (fun s => by rw [← hF]; simp only [hg]) (fun a e v hv => by
      rw [← hF]
      simp only [hg]
      generalize (getS fr a).den = p at *
      unfold Instr.loadAt at hv
      cases p <;> first
        | (simp [Instr.sureAddr, stuck] at hv; done)
        | (rename_i o
           cases o with
           | none => simp [Instr.sureAddr, stuck] at hv
           | some o => exact hv)) fn.results.toList [] h
  obtain ⟨x, hx, hk⟩ := typedR_ok h2
  refine ⟨x, ?_, hk⟩
  rw [Array.mapM_eq_mapM_toList]
  simp only [Sem.run_bind, Sem.run_map]
  rw [h1]
  simp only [List.nil_append] at hx
  rw [← hx]
  simp only [Result.andThen_ok, Sem.run_pure]
  unfold oneOr
  match vs with
  | [] => rfl
  | [v] => rfl
  | _ :: _ :: _ => simp
theorem fn_ok {P : Program} {ty : List RT} {LW : Code → Post → List SV → World → Prop} (hm : P.follows .mixedOrders = true) (hL : Sound P LW) {f : FuncId} {fn : Func} {c : Code}
    (hf : P.funcs[f]? = some fn) (hname : (fn.name == "runtime.NumGoroutine") = false) (hb : fn.body = some c) {n : Nat} (hn : fn.ntmps = n) (args : List Value) {t : RT} {K : t.T → World → Prop} {w : World}
    (h : W P ty LW c (fnPost P fn.results.toList t K) (frame0 args n) w) : Fc P f args.toArray w t K := by
  refine ⟨fun args w => ?_, ?_⟩
  · have h1 : fn.name ≠ "runtime.NumGoroutine" := by simpa using hname
    simp [callFunc, hf, h1, hb]
  · refine calls_of_wp hf hb ?_
    have := W_ok hm hL c _ _ _ h
    have he : act (frame0 args n) = { tmps := args.toArray ++ Array.replicate (fn.ntmps - args.toArray.size) undef, defers := [] } := by
      unfold act frame0
      simp only [List.map_append, List.map_map, List.map_replicate, List.size_toArray, hn]
      congr 1
      rw [show (SV.den ∘ SV.val) = (id : Value → Value) from rfl]
      apply Array.ext'
      simp [SV.den]
    rw [he] at this
    refine wp_mono this ?_
    rintro e a w' ⟨fr, rfl, h'⟩
    cases e with
    | normal => obtain ⟨x, hx, hk⟩ := results_ok h'; exact ⟨rfl, _, hx, x, rfl, hk⟩
    | ret => obtain ⟨x, hx, hk⟩ := results_ok h'; exact ⟨rfl, _, hx, x, rfl, hk⟩
    | exit k => exact h'.elim
    | goto l => exact h'.elim
    | panic ch => exact h'.elim
    | outgrown => exact h'.elim
theorem sound_none (P : Program) : Sound P (fun _ _ _ _ => False) := fun _ _ _ _ h => h.elim
theorem Fc.mono {P : Program} {f : FuncId} {args : Array Value} {w : World} {t : RT} {K K' : t.T → World → Prop} (h : Fc P f args w t K) (hk : ∀ x w', K x w' → K' x w') : Fc P f args w t K' :=
  ⟨h.ent, h.run.mono fun _ _ ⟨x, he, hx⟩ => ⟨x, he, hk _ _ hx⟩⟩

/-! ### What a function's printed reading is held against -/
def bodyOf (fn : Func) : Code := fn.body.getD .skip
def firstId : Code → Nat
  | .region id _ _ => id
  | .seq x _ => firstId x
  | .block _ c => firstId c
  | .loop c => 1000 + firstId c
  | _ => 0
def findLoop (id : Nat) : Code → Option Code
  | .loop c => bif firstId c == id then some c else findLoop id c
  | .seq x y => match findLoop id x with
    | some c => some c
    | none => findLoop id y
  | .cond _ x y => match findLoop id x with
    | some c => some c
    | none => findLoop id y
  | .block _ c => findLoop id c
  | _ => none
def loopAt (fn : Func) (id : Nat) : Code := (findLoop id (bodyOf fn)).getD .skip
def orc (id : Nat) (c0 : Code) (sp : List Slot) (X : Post → List SV → World → Prop) (O : Code → Post → List SV → World → Prop) : Code → Post → List SV → World → Prop :=
  fun c Φ fr w => bif firstId c == id then At c c0 (bif shapeT sp fr then X Φ fr w else False) else O c Φ fr w
theorem orc_ok {P : Program} {O : Code → Post → List SV → World → Prop} (hO : Sound P O) {id : Nat} {c0 : Code} {sp : List Slot} {X : Post → List SV → World → Prop}
    (hX : ∀ Φ fr w, shapeT sp fr = true → X Φ fr w → (Code.loop c0).wp P (up Φ) (act fr) w) : Sound P (orc id c0 sp X O) := by
  intro c Φ fr w h
  unfold orc at h
  cases hb : (firstId c == id) with
  | true =>
    rw [hb] at h
    obtain ⟨rfl, h⟩ := h
    cases hs : shapeT sp fr with
    | true => rw [hs] at h; exact hX Φ fr w hs h
    | false => rw [hs] at h; exact h.elim
  | false => rw [hb] at h; exact hO c Φ fr w h
end Go.Proofs.YtmecbbanklffgaaDoor.Eng

/- The rules of memory for the readings: what is read, written and made, said of whole blocks. No condition. -/
namespace Go.Proofs.YtmecbbanklffgaaDoor.Mem
open Go Go.RowKit Eng

abbrev ptr (b off : Nat) : Value := .pointer (some ⟨b, off, none⟩)

/-! ### Worlds that keep blocks -/
/-- w' is w but for the blocks in S, and new ones. -/
structure Mod (S : List Nat) (w w' : World) : Prop where
  os : w'.os = w.os
  tape : w'.tape = w.tape
  output : w'.output = w.output
  size : w.heap.size ≤ w'.heap.size
  block : ∀ k, k < w.heap.size → k ∉ S → w'.heap[k]? = w.heap[k]?
theorem Mod.refl (S : List Nat) (w : World) : Mod S w w := ⟨rfl, rfl, rfl, Nat.le_refl _, fun _ _ _ => rfl⟩
theorem Mod.mono {S S' : List Nat} {w w' : World} (h : Mod S w w') (hs : ∀ k ∈ S, k ∈ S' ∨ w.heap.size ≤ k) : Mod S' w w' :=
  ⟨h.os, h.tape, h.output, h.size, fun k hk hn => h.block k hk fun hm => by rcases hs k hm with h' | h' <;> first | exact hn h' | omega⟩
theorem Mod.trans {S : List Nat} {a b c : World} (h : Mod S a b) (k : Mod S b c) : Mod S a c :=
  ⟨k.os.trans h.os, k.tape.trans h.tape, k.output.trans h.output, Nat.le_trans h.size k.size, fun i hi hn => (k.block i (Nat.lt_of_lt_of_le hi h.size) hn).trans (h.block i hi hn)⟩
/-- The second step may turn what S names, and what the first has made. -/
theorem Mod.andThen {S S' : List Nat} {a b c : World} (h : Mod S a b) (k : Mod S' b c) (hs : ∀ i ∈ S', i ∈ S ∨ a.heap.size ≤ i) : Mod S a c :=
  ⟨k.os.trans h.os, k.tape.trans h.tape, k.output.trans h.output, Nat.le_trans h.size k.size, fun i hi hn =>
    (k.block i (Nat.lt_of_lt_of_le hi h.size) (fun hm => by rcases hs i hm with h' | h' <;> first | exact hn h' | omega)).trans (h.block i hi hn)⟩
theorem Mod.below {S : List Nat} {w w' : World} (h : Mod S w w') {B : Nat} (hB : B ≤ w.heap.size) (hs : ∀ k ∈ S, B ≤ k) : Below B w w' :=
  ⟨h.os, h.tape, h.output, h.size, fun k hk => h.block k (by omega) fun hm => by have := hs k hm; omega⟩
theorem Mod.nil {w w' : World} (h : Mod [] w w') : Below w.heap.size w w' := h.below (Nat.le_refl _) (fun _ hm => by cases hm)
theorem mod_of_below {w w' : World} (h : Below w.heap.size w w') (S : List Nat) : Mod S w w' := ⟨h.os, h.tape, h.output, h.size, fun k hk _ => h.block k hk⟩
theorem Mod.at_ {S : List Nat} {w w' : World} (h : Mod S w w') {b : Nat} {o : Obj} (hb : w.heap[b]? = some o) (hn : b ∉ S) : w'.heap[b]? = some o := by
  rw [h.block b (Array.getElem?_eq_some_iff.1 hb).1 hn]; exact hb
theorem below_at {B : Nat} {w w' : World} (h : Below B w w') {b : Nat} {o : Obj} (hb : w.heap[b]? = some o) (hn : b < B) : w'.heap[b]? = some o := by
  rw [h.block b hn]; exact hb
theorem at_lt {w : World} {b : Nat} {o : Obj} (h : w.heap[b]? = some o) : b < w.heap.size := (Array.getElem?_eq_some_iff.1 h).1
/-- A new block. -/
structure New (w w' : World) (b : Nat) (o : Obj) : Prop where
  here : b = w.heap.size
  size : w'.heap.size = w.heap.size + 1
  at_ : w'.heap[b]? = some o
  mod : Mod [] w w'
theorem new_alloc (w : World) (o : Obj) : New w (w.alloc o) w.heap.size o :=
  ⟨rfl, by show (w.heap.push o).size = _; simp, heap_alloc_new w o, ⟨rfl, rfl, rfl, by show _ ≤ (w.heap.push o).size; simp, fun k hk _ => heap_alloc_old w o k hk⟩⟩
theorem New.below {w w' : World} {b : Nat} {o : Obj} (h : New w w' b o) : Below w.heap.size w w' := h.mod.nil

/-! ### What may be read -/
/-- From the pointer p on lie these values. -/
structure Row (w : World) (p : Value) (vs : List Value) : Prop where
  ex : ∃ b off cs e fz, p = ptr b off ∧ w.heap[b]? = some (.cells cs e fz) ∧ ∀ i, i < vs.length → cs[off + i]? = vs[i]?
abbrev Cell (w : World) (p v : Value) : Prop := Row w p [v]
theorem Row.keep {w w' : World} {p : Value} {vs : List Value} (h : Row w p vs) (hb : Below w.heap.size w w') : Row w' p vs := by
  obtain ⟨b, off, cs, e, fz, hp, ha, hr⟩ := h
  exact ⟨b, off, cs, e, fz, hp, below_at hb ha (at_lt ha), hr⟩
theorem Row.mod {w w' : World} {b off : Nat} {vs : List Value} {S : List Nat} (h : Row w (ptr b off) vs) (hb : Mod S w w') (hn : b ∉ S) : Row w' (ptr b off) vs := by
  obtain ⟨b', off', cs, e, fz, hp, ha, hr⟩ := h
  injection hp with hp; injection hp with hp; injection hp with h1 h2 _
  subst h1; subst h2
  exact ⟨_, _, cs, e, fz, rfl, hb.at_ ha hn, hr⟩
theorem row_of {w : World} {b : Nat} {cs : Array Value} {e : Nat} {fz : Nat × Nat} (ha : w.heap[b]? = some (.cells cs e fz)) (off : Nat) (vs : List Value) (h : ∀ i, i < vs.length → cs[off + i]? = vs[i]?) : Row w (ptr b off) vs :=
  ⟨b, off, cs, e, fz, rfl, ha, h⟩
theorem row_all {w : World} {b : Nat} {cs : List Value} {e : Nat} {fz : Nat × Nat} (ha : w.heap[b]? = some (.cells cs.toArray e fz)) : Row w (ptr b 0) cs :=
  row_of ha 0 cs fun i _ => by simp
theorem Row.nonnil {w : World} {p : Value} {vs : List Value} (h : Row w p vs) : NilOk p := by
  obtain ⟨b, off, _, _, _, rfl, _⟩ := h; exact .inl ⟨_, rfl⟩
/-- A pointer moved on by k cells. -/
def padd (p : Value) (k : Nat) : Value :=
  match p with
  | .pointer (some a) => .pointer (some (a.add k))
  | v => v
theorem add_none (b off k : Nat) : (⟨b, off, none⟩ : Addr).add k = ⟨b, off + k, none⟩ := by unfold Addr.add; split <;> simp_all
theorem Row.sub {w : World} {p : Value} {vs : List Value} (h : Row w p vs) (k : Nat) {us : List Value} (hk : ∀ i, i < us.length → vs[k + i]? = us[i]?) : Row w (padd p k) us := by
  obtain ⟨b, off, cs, e, fz, rfl, ha, hr⟩ := h
  refine ⟨b, off + k, cs, e, fz, by simp [padd, add_none], ha, fun i hi => ?_⟩
  have h1 := hk i hi
  have h2 : k + i < vs.length := by
    rw [List.getElem?_eq_getElem hi] at h1
    exact (List.getElem?_eq_some_iff.1 h1).1
  rw [Nat.add_assoc, hr _ h2, h1]
theorem Row.get {w : World} {p : Value} {vs : List Value} (h : Row w p vs) (k : Nat) {v : Value} (hk : vs[k]? = some v) : Cell w (padd p k) v :=
  h.sub k fun i hi => by simp at hi; subst hi; simpa using hk

/-! ### Kinds of types, as the program's tables have them -/
def aggD : TypeDesc → Bool
  | .struct _ | .array _ _ => true
  | _ => false
/-- A type of one cell. -/
structure Ty1 (P : Program) (t : TypeId) (z : Value) (bytes : Nat) : Prop where
  und : ∃ d, P.underlying t = some d ∧ aggD d = false
  info : (P.info? t).map (fun i => (i.zero, i.size, i.bytes)) = some (some z, 1, bytes)
  one : z.oneCell' = true
/-- A type of several cells. -/
structure TyA (P : Program) (t : TypeId) (z : List Value) : Prop where
  und : ∃ d, P.underlying t = some d ∧ aggD d = true
  info : (P.info? t).map (fun i => (i.zero, i.size)) = some (some (.agg z.toArray), z.length)
/-- A slice type and its elements. -/
structure TyS (P : Program) (t e : TypeId) (size bytes : Nat) (z : Value) : Prop where
  und : P.underlying t = some (.slice e)
  info : (P.info? e).map (fun i => (i.zero, i.size, i.bytes)) = some (some z, size, bytes)
  zs : z.cells.size = size
  pos : 0 < size
theorem isAgg_run {P : Program} {t : TypeId} {d : TypeDesc} (h : P.underlying t = some d) (w : World) : (isAgg t).run P w = .ok (aggD d) w := by
  unfold isAgg
  simp only [Sem.run_bind, run_underlying h, Result.andThen_ok]
  cases d <;> rfl
theorem loadVar_one {P : Program} {t : TypeId} {z : Value} {n : Nat} (ht : Ty1 P t z n) (a : Addr) (w : World) : (loadVar t a).run P w = (load a).run P w := by
  obtain ⟨d, hd, hf⟩ := ht.und
  unfold loadVar
  rw [Sem.run_bind, isAgg_run hd, hf]
  rfl
theorem sizeOf_run {P : Program} {t : TypeId} {n : Nat} (h : (P.info? t).map (·.size) = some n) (w : World) : (sizeOf t).run P w = .ok n w := by
  obtain ⟨i, hi, hs⟩ := Option.map_eq_some_iff.1 h
  simp [sizeOf, typeInfo, hi, hs]
theorem Ty1.size {P : Program} {t : TypeId} {z : Value} {n : Nat} (ht : Ty1 P t z n) : (P.info? t).map (·.size) = some 1 := by
  obtain ⟨i, hi, hs⟩ := Option.map_eq_some_iff.1 ht.info
  injection hs with _ hs; injection hs with hs _
  rw [hi]; exact congrArg some hs
theorem TyA.size {P : Program} {t : TypeId} {z : List Value} (ht : TyA P t z) : (P.info? t).map (·.size) = some z.length := by
  obtain ⟨i, hi, hs⟩ := Option.map_eq_some_iff.1 ht.info
  injection hs with _ hs
  rw [hi]; exact congrArg some hs

/-! ### Loads -/
theorem ld_run {P : Program} {w : World} {p v : Value} {t : TypeId} {z : Value} {n : Nat} (ht : Ty1 P t z n) (h : Cell w p v) : (Instr.loadAt t p).run P w = .ok v w := by
  obtain ⟨b, off, cs, e, fz, rfl, ha, hr⟩ := h
  have h0 := hr 0 (by simp)
  simp only [Nat.add_zero, List.getElem?_cons_zero] at h0
  unfold Instr.loadAt
  simp only [Instr.sureAddr, Sem.run_bind, Sem.run_pure, Result.andThen_ok]
  rw [loadVar_one ht, run_load]
  simp [World.cell?, ha, h0]
/-- A cell is read. -/
theorem ld {P : Program} {w : World} {p : Value} {t : TypeId} {z : Value} {n : Nat} {k : TK} {x : k.T} {K : k.T → Prop} (ht : Ty1 P t z n) (h : Cell w p (k.val x)) (hK : K x) : QSub P (Instr.loadAt t p) w k K :=
  ⟨x, fun _ hb => ld_run ht (h.keep hb), hK⟩
theorem ldA_run {P : Program} {w : World} {p : Value} {vs : List Value} {t : TypeId} {z : List Value} (ht : TyA P t z) (hl : vs.length = z.length) (h : Row w p vs) : (Instr.loadAt t p).run P w = .ok (.agg vs.toArray) w := by
  obtain ⟨b, off, cs, e, fz, rfl, ha, hr⟩ := h
  obtain ⟨d, hd, hf⟩ := ht.und
  unfold Instr.loadAt
  simp only [Instr.sureAddr, Sem.run_bind, Sem.run_pure, Result.andThen_ok, loadVar, isAgg_run hd, hf, if_true, sizeOf_run ht.size]
  rw [← hl, run_loadCells_list w ⟨b, off, none⟩ vs (fun j v hv => by
    rw [add_none]
    have hj : j < vs.length := (List.getElem?_eq_some_iff.1 hv).1
    simp [World.cell?, ha, hr j hj, hv])]
  rfl
/-- A struct or an array is read whole. -/
theorem ldA {P : Program} {w : World} {p : Value} {vs : List Value} {t : TypeId} {z : List Value} {K : Value → Prop} (ht : TyA P t z) (hl : vs.length = z.length) (h : Row w p vs) (hK : K (.agg vs.toArray)) : QSub P (Instr.loadAt t p) w .any K :=
  ⟨.agg vs.toArray, fun _ hb => ldA_run ht hl (h.keep hb), hK⟩

/-! ### Addresses -/
/-- A field of a struct type: how far in it lies. -/
structure TyF (P : Program) (s : TypeId) (f off : Nat) : Prop where
  ex : ∃ fs fd, P.underlying s = some (.struct fs) ∧ fs[f]? = some fd ∧ fd.offset = off ∧ ∃ n, (P.info? fd.type).map (·.size) = some (n + 1)
theorem fld {P : Program} {s : TypeId} {f off : Nat} {p : Value} {K : Value → Prop} (ht : TyF P s f off) (hp : NilOk p) (hf : ∃ a, p = .pointer (some a)) (hK : K (padd p off)) : QAll P (Instr.fieldAt s p f) .any K := by
  obtain ⟨a, rfl⟩ := hf
  obtain ⟨fs, fd, hu, hg, rfl, n, hn⟩ := ht.ex
  refine ⟨padd (.pointer (some a)) fd.offset, fun w => ?_, hK⟩
  unfold Instr.fieldAt
  simp [run_underlying hu, hg, Instr.sureAddr, fieldPlace, sizeOf_run hn, padd]
theorem Row.isPtr {w : World} {p : Value} {vs : List Value} (h : Row w p vs) : ∃ a, p = .pointer (some a) := by
  obtain ⟨b, off, _, _, _, rfl, _⟩ := h; exact ⟨_, rfl⟩
/-- An array type and its elements. -/
structure TyR (P : Program) (t e : TypeId) (len size : Nat) : Prop where
  und : P.underlying t = some (.array len e)
  size : (P.info? e).map (·.size) = some size
  long : 2 ≤ len
theorem ixR {P : Program} {t e : TypeId} {len size : Nat} {p : Value} {k : IntKind} {i : Int} {K : Value → Prop} (ht : TyR P t e len size) (hp : ∃ a, p = .pointer (some a)) (h0 : 0 ≤ i) (h1 : i < len) (hK : K (padd p (i.toNat * size))) :
    QAll P (Instr.indexAt t p (.int k i)) .any K := by
  obtain ⟨a, rfl⟩ := hp
  refine ⟨padd (.pointer (some a)) (i.toNat * size), fun w => ?_, hK⟩
  unfold Instr.indexAt
  simp [asIntOf, run_underlying ht.und, Instr.sureAddr, sizeOf_run ht.size, padd, h0, h1]

/-! ### Slices -/
/-- A slice that reads as these values, an element size cells. -/
structure Sl (w : World) (v : Value) (size : Nat) (vs : List Value) : Prop where
  ex : ∃ a n c, v = .slice a n c ∧ n ≤ c ∧ vs.length = n * size ∧ (vs ≠ [] → Row w (.pointer a) vs)
theorem Sl.keep {w w' : World} {v : Value} {size : Nat} {vs : List Value} (h : Sl w v size vs) (hb : Below w.heap.size w w') : Sl w' v size vs := by
  obtain ⟨a, n, c, hv, hc, hn, hr⟩ := h
  exact ⟨a, n, c, hv, hc, hn, fun hne => (hr hne).keep hb⟩
theorem Sl.nil (w : World) (size : Nat) : Sl w (.slice none 0 0) size [] := ⟨none, 0, 0, rfl, Nat.le_refl _, by simp, fun h => absurd rfl h⟩
theorem ixS {P : Program} {t e : TypeId} {size bytes : Nat} {z : Value} {w : World} {v : Value} {vs : List Value} {k : IntKind} {i : Int} {K : Value → Prop} (ht : TyS P t e size bytes z) (h : Sl w v size vs) (h0 : 0 ≤ i) (h1 : i.toNat * size < vs.length)
    (hK : ∀ p, (∀ us : List Value, (∀ j, j < us.length → vs[i.toNat * size + j]? = us[j]?) → Row w p us) → K p) : QAll P (Instr.indexAt t v (.int k i)) .any K := by
  obtain ⟨a, n, c, rfl, hc, hn, hr⟩ := h
  have hr := hr (by intro he; rw [he] at h1; simp at h1)
  obtain ⟨b, off, cs, e', fz, hp, ha, hg⟩ := id hr
  injection hp with hp
  subst hp
  have hin : i < n := by
    rw [hn] at h1
    have := Nat.lt_of_mul_lt_mul_right h1
    omega
  obtain ⟨d, hi, hd⟩ := Option.map_eq_some_iff.1 ht.info
  have hs : (P.info? e).map (·.size) = some size := by rw [hi]; injection hd with _ hd; injection hd with hd _; exact congrArg some hd
  refine ⟨padd (ptr b off) (i.toNat * size), fun w => ?_, hK _ fun us hus => hr.sub _ hus⟩
  unfold Instr.indexAt
  simp [asIntOf, run_underlying ht.und, sizeOf_run hs, padd, h0, hin]
theorem len_run {P : Program} {t e : TypeId} {size bytes : Nat} {z : Value} {w : World} {v : Value} {vs : List Value} {ty : TypeId} (ht : TyS P t e size bytes z) (h : Sl w v size vs) (w' : World) :
    (Builtin.len_ #[t] ty #[v]).run P w' = .ok (.int .i64 ((vs.length / size : Nat) : Int)) w' := by
  obtain ⟨a, n, c, rfl, hc, hn, hr⟩ := h
  unfold Builtin.len_
  simp [run_underlying ht.und, goInt, hn, Nat.mul_div_cancel n ht.pos]
theorem len {P : Program} {t e : TypeId} {size bytes : Nat} {z : Value} {w : World} {v : Value} {vs : List Value} {ty : TypeId} {K : Int → Prop} (ht : TyS P t e size bytes z) (h : Sl w v size vs) (hK : K ((vs.length / size : Nat) : Int)) :
    QAll P (Builtin.len_ #[t] ty #[v]) (.int .i64) K := ⟨_, fun w' => len_run ht h w', hK⟩

/-! ### Own blocks: made by the call, and written -/
abbrev Blk (w : World) (b : Nat) (l : List Value) (e : Nat) : Prop := w.heap[b]? = some (.cells l.toArray e (0, 0))
theorem blk_row {w : World} {b e : Nat} {l : List Value} (h : Blk w b l e) : Row w (ptr b 0) l := row_all h
theorem mod_setRow {w : World} {b e : Nat} {l l' : List Value} (h : Blk w b l e) : Mod [b] w (w.setRow b l'.toArray) ∧ Blk (w.setRow b l'.toArray) b l' e :=
  ⟨⟨rfl, rfl, rfl, by simp, fun k _ hn => setRow_other w b k _ (by simpa using hn)⟩, setRow_heap w b _ _ e _ h⟩
theorem size_setRow' (w : World) (b : Nat) (l : Array Value) : (w.setRow b l).heap.size = w.heap.size := size_setRow w b l
/-- A cell of an own block is written. -/
theorem st {P : Program} {w : World} {b off e : Nat} {l : List Value} {t : TypeId} {z v : Value} {n : Nat} {K : World → Prop} (ht : Ty1 P t z n) (ha : Blk w b l e) (ho : off < l.length) (hv : v.oneCell' = true)
    (hK : ∀ w', Mod [b] w w' → w'.heap.size = w.heap.size → Blk w' b (l.set off v) e → K w') : PrU P (Instr.storeAt t (ptr b off) v) w K := by
  obtain ⟨m, hb⟩ := mod_setRow (l' := l.set off v) ha
  refine ⟨w.setRow b (l.set off v).toArray, ?_, hK _ m (size_setRow' _ _ _) hb⟩
  have hc : v.cells = #[v] := by cases v <;> first | rfl | cases hv
  unfold Instr.storeAt
  simp only [Instr.sureAddr, Sem.run_bind, Sem.run_pure, Result.andThen_ok, storeVar, sizeOf_run ht.size, hc, List.size_toArray, List.length_singleton, ne_eq, not_true, if_false, Sem.run_ite]
  have := run_storeCells_at (P := P) b off e [v] 0 l.toArray w ha (by simp; omega) (by simp [hv])
  simp only [Nat.add_zero, List.length_singleton] at this
  have hl : l.take off ++ [v] ++ l.drop (off + 1) = l.set off v := by
    rw [List.set_eq_take_append_cons_drop, if_pos ho]; simp
  rw [hl] at this
  exact this
/-- A struct or an array is written whole. -/
theorem stA {P : Program} {w : World} {b e : Nat} {l vs : List Value} {t : TypeId} {z : List Value} {K : World → Prop} (ht : TyA P t z) (off : Nat) (ha : Blk w b l e) (hl : vs.length = z.length) (ho : off + vs.length ≤ l.length) (hv : ∀ v ∈ vs, v.oneCell' = true)
    (hK : ∀ w', Mod [b] w w' → w'.heap.size = w.heap.size → Blk w' b (l.take off ++ vs ++ l.drop (off + vs.length)) e → K w') : PrU P (Instr.storeAt t (ptr b off) (.agg vs.toArray)) w K := by
  obtain ⟨m, hb⟩ := mod_setRow (l' := l.take off ++ vs ++ l.drop (off + vs.length)) ha
  refine ⟨w.setRow b (l.take off ++ vs ++ l.drop (off + vs.length)).toArray, ?_, hK _ m (size_setRow' _ _ _) hb⟩
  unfold Instr.storeAt
  simp only [Instr.sureAddr, Sem.run_bind, Sem.run_pure, Result.andThen_ok, storeVar, sizeOf_run ht.size, Value.cells, List.size_toArray, ← hl, ne_eq, not_true, if_false, Sem.run_ite]
  have := run_storeCells_at (P := P) b off e vs 0 l.toArray w ha (by simpa using ho) hv
  simp only [Nat.add_zero] at this
  exact this
theorem stA0 {P : Program} {w : World} {b e : Nat} {l vs : List Value} {t : TypeId} {z : List Value} {K : World → Prop} (ht : TyA P t z) (ha : Blk w b l e) (hl : vs.length = z.length) (ho : vs.length = l.length) (hv : ∀ v ∈ vs, v.oneCell' = true)
    (hK : ∀ w', Mod [b] w w' → w'.heap.size = w.heap.size → Blk w' b vs e → K w') : PrU P (Instr.storeAt t (ptr b 0) (.agg vs.toArray)) w K :=
  stA ht 0 ha hl (by omega) hv fun w' m hs hb => hK w' m hs (by simpa [ho, List.drop_length] using hb)

/-! ### New blocks -/
theorem newVar_run (P : Program) (t : TypeId) (v : Value) (w : World) : (newVar t v).run P w = .ok ⟨w.heap.size, 0, none⟩ (w.alloc (.cells v.cells t)) := rfl
theorem box {P : Program} {w : World} {e : TypeId} {v : Value} {K : Value → World → Prop} (l : List Value) (hv : v.cells = l.toArray) (hK : ∀ b w', New w w' b (.cells l.toArray e) → K (ptr b 0) w') : Pr P (Instr.box e v) w (.one .any) K := by
  refine ⟨ptr w.heap.size 0, w.alloc (.cells v.cells e), rfl, ?_⟩
  rw [hv]; exact hK _ _ (new_alloc w _)
theorem zero_run {P : Program} {t : TypeId} {z : Value} (h : (P.info? t).map (·.zero) = some (some z)) (w : World) : (zeroValue t).run P w = .ok z w := by
  obtain ⟨i, hi, hs⟩ := Option.map_eq_some_iff.1 h
  simp [zeroValue, typeInfo, hi, hs]
theorem alloc {P : Program} {w : World} {t : TypeId} {z : Value} {K : Value → World → Prop} (l : List Value) (h : (P.info? t).map (·.zero) = some (some z)) (hz : z.cells = l.toArray) (hK : ∀ b w', New w w' b (.cells l.toArray t) → K (ptr b 0) w') :
    Pr P (Instr.alloc t true (.tuple #[])) w (.one .any) K := by
  refine ⟨ptr w.heap.size 0, w.alloc (.cells z.cells t), ?_, by rw [hz]; exact hK _ _ (new_alloc w _)⟩
  unfold Instr.alloc
  simp only [Sem.run_bind, zero_run h, Result.andThen_ok]
  rfl
theorem Ty1.zero {P : Program} {t : TypeId} {z : Value} {n : Nat} (ht : Ty1 P t z n) : (P.info? t).map (·.zero) = some (some z) := by
  obtain ⟨i, hi, hs⟩ := Option.map_eq_some_iff.1 ht.info
  injection hs with hs _
  rw [hi]; exact congrArg some hs
theorem TyA.zero {P : Program} {t : TypeId} {z : List Value} (ht : TyA P t z) : (P.info? t).map (·.zero) = some (some (.agg z.toArray)) := by
  obtain ⟨i, hi, hs⟩ := Option.map_eq_some_iff.1 ht.info
  injection hs with hs _
  rw [hi]; exact congrArg some hs
theorem alloc1 {P : Program} {w : World} {t : TypeId} {z : Value} {n : Nat} {K : Value → World → Prop} (ht : Ty1 P t z n) (hK : ∀ b w', New w w' b (.cells [z].toArray t) → K (ptr b 0) w') : Pr P (Instr.alloc t true (.tuple #[])) w (.one .any) K :=
  alloc [z] ht.zero (by have := ht.one; cases z <;> first | rfl | cases this) hK
theorem allocA {P : Program} {w : World} {t : TypeId} {z : List Value} {K : Value → World → Prop} (ht : TyA P t z) (hK : ∀ b w', New w w' b (.cells z.toArray t) → K (ptr b 0) w') : Pr P (Instr.alloc t true (.tuple #[])) w (.one .any) K :=
  alloc z ht.zero rfl hK

/-! ### Slices of the call's own -/
/-- Block b holds the array of the slice v, whose n elements (size cells each) are these. -/
structure Own (w : World) (b e size : Nat) (v : Value) (n : Nat) (xs : List Value) : Prop where
  ex : ∃ cap l, v = .slice (some ⟨b, 0, none⟩) n cap ∧ Blk w b l e ∧ n ≤ cap ∧ cap ≤ maxLen ∧ l.length = cap * size ∧ l.take (n * size) = xs ∧ xs.length = n * size
theorem Own.len {w : World} {b e size n : Nat} {v : Value} {xs : List Value} (h : Own w b e size v n xs) : xs.length = n * size := by
  obtain ⟨_, _, _, _, _, _, _, _, h⟩ := h; exact h
theorem Own.row {w : World} {b e size n : Nat} {v : Value} {xs : List Value} (h : Own w b e size v n xs) : Row w (ptr b 0) xs := by
  obtain ⟨cap, l, rfl, hb, _, _, hl, rfl, hx⟩ := h
  refine row_of hb 0 _ fun i hi => ?_
  have : i < n * size := by rw [hx] at hi; exact hi
  simp [this]
theorem Own.sl {w : World} {b e size n : Nat} {v : Value} {xs : List Value} (h : Own w b e size v n xs) : Sl w v size xs := by
  obtain ⟨cap, l, rfl, hb, hc, hm, hl, ht, hx⟩ := id h
  exact ⟨_, _, _, rfl, hc, hx, fun _ => h.row⟩
theorem Own.lt {w : World} {b e size n : Nat} {v : Value} {xs : List Value} (h : Own w b e size v n xs) : b < w.heap.size := by
  obtain ⟨cap, l, rfl, hb, _⟩ := h; exact at_lt hb
theorem Own.mod {w w' : World} {b e size n : Nat} {v : Value} {xs : List Value} {S : List Nat} (h : Own w b e size v n xs) (m : Mod S w w') (hn : b ∉ S) : Own w' b e size v n xs := by
  obtain ⟨cap, l, hv, hb, r⟩ := h
  exact ⟨cap, l, hv, m.at_ hb hn, r⟩
theorem Own.keep {w w' : World} {b e size n : Nat} {v : Value} {xs : List Value} (h : Own w b e size v n xs) (m : Below w.heap.size w w') : Own w' b e size v n xs :=
  h.mod (mod_of_below m []) (by simp)
theorem own_new {w : World} {b e size n : Nat} {xs : List Value} (h : Blk w b xs e) (hx : xs.length = n * size) (hm : n ≤ maxLen) : Own w b e size (.slice (some ⟨b, 0, none⟩) n n) n xs :=
  ⟨n, xs, rfl, h, Nat.le_refl _, hm, hx, by rw [← hx, List.take_length], hx⟩
/-- An element of an own slice of one-cell elements is written. -/
theorem Own.set {w w' : World} {b e n : Nat} {v u : Value} {xs : List Value} {i : Nat} (h : Own w b e 1 v n xs) {l : List Value} (hl : Blk w b l e) (hb : Blk w' b (l.set i u) e) : Own w' b e 1 v n (xs.set i u) := by
  obtain ⟨cap, l', rfl, hb', hc, hm, hll, ht, hx⟩ := h
  have : l = l' := by
    have h1 := hl.symm.trans hb'
    injection h1 with h1
    injection h1 with h1
    exact congrArg Array.toList h1
  subst this
  refine ⟨cap, _, rfl, hb, hc, hm, by simpa using hll, ?_, by simpa using hx⟩
  rw [← ht, List.take_set]
theorem Own.blk {w : World} {b e size n : Nat} {v : Value} {xs : List Value} (h : Own w b e size v n xs) : ∃ cap l, v = .slice (some ⟨b, 0, none⟩) n cap ∧ Blk w b l e ∧ l.take (n * size) = xs ∧ n * size ≤ l.length := by
  obtain ⟨cap, l, hv, hb, hc, hm, hl, ht, hx⟩ := h
  exact ⟨cap, l, hv, hb, ht, by rw [hl]; exact Nat.mul_le_mul_right _ hc⟩
theorem TyS.parts {P : Program} {t e : TypeId} {size bytes : Nat} {z : Value} (ht : TyS P t e size bytes z) : ∃ i, P.info? e = some i ∧ i.zero = some z ∧ i.size = size ∧ i.bytes = bytes := by
  obtain ⟨i, hi, hd⟩ := Option.map_eq_some_iff.1 ht.info
  injection hd with h1 hd; injection hd with h2 h3
  exact ⟨i, hi, h1, h2, h3⟩
/-- What an append leaves. -/
def AppR (S : List Nat) (b0 : Option Nat) (w : World) (e size n : Nat) (xs : List Value) (v' : Value) (w' : World) : Prop :=
  ∃ b', Own w' b' e size v' n xs ∧ Mod S w w' ∧ (some b' = b0 ∨ w.heap.size ≤ b')
theorem app_run {P : Program} {w : World} {t e ty : TypeId} {size bytes : Nat} {z : Value} (ht : TyS P t e size bytes z) {b n m : Nat} {v y : Value} {xs ys : List Value} (h : Own w b e size v n xs) (hy : Sl w y size ys) (hm : ys.length = m * size) (h1 : ∀ u ∈ ys, u.oneCell' = true)
    (hbig : (n + m) * (bytes + 1) ≤ 140737488355328) : ∃ v' w', (Builtin.append_ #[t, t] ty #[v, y]).run P w = .ok v' w' ∧ AppR [b] (some b) w e size (n + m) (xs ++ ys) v' w' := by
  obtain ⟨i, hi, hz, rfl, rfl⟩ := ht.parts
  obtain ⟨cap, l, rfl, hb, hc, hcm, hl, htk, hx⟩ := id h
  obtain ⟨ao, m', c, rfl, hmc, hlen, hr⟩ := hy
  have hmm : m' = m := Nat.mul_right_cancel ht.pos (hlen.symm.trans hm)
  subst hmm
  have hle : n + m' ≤ 140737488355328 := Nat.le_trans (Nat.le_mul_of_pos_right _ (Nat.succ_pos _)) hbig
  have hby : (n + m') * i.bytes ≤ 140737488355328 := Nat.le_trans (Nat.mul_le_mul_left _ (Nat.le_succ _)) hbig
  have hmx : n + m' ≤ maxLen := by unfold maxLen; omega
  by_cases hnil : ys = []
  · subst hnil
    have hm0 : m' = 0 := by
      have : m' * i.size = 0 := by rw [← hm]; rfl
      rcases Nat.mul_eq_zero.1 this with h | h
      · exact h
      · exact absurd h (Nat.pos_iff_ne_zero.1 ht.pos)
    subst hm0
    refine ⟨_, w, ?_, b, by simpa using h, Mod.refl _ _, .inl rfl⟩
    have hcell : ∀ j u, ([] : List Value)[j]? = some u → w.cell? ((ao.getD ⟨0, 0, none⟩).add j) = some u := fun j u h => by simp at h
    cases ao with
    | none => simp [Builtin.append_, run_underlying ht.und, sizeOf, typeInfo, hi, Builtin.lenOf, Builtin.firstCells, hc, storeCells]
    | some a => simp [Builtin.append_, run_underlying ht.und, sizeOf, typeInfo, hi, Builtin.lenOf, Builtin.firstCells, hc, storeCells, loadCells, loadCellsFrom]
  · obtain ⟨b2, off2, cs2, e2, fz2, hp, ha2, hr2⟩ := hr hnil
    injection hp with hp
    subst hp
    have hcell : ∀ j u, ys[j]? = some u → w.cell? ((⟨b2, off2, none⟩ : Addr).add j) = some u := fun j u hu => by
      have hj : j < ys.length := (List.getElem?_eq_some_iff.1 hu).1
      rw [add_none]; simp [World.cell?, ha2, hr2 j hj, hu]
    have hlen2 : (xs ++ ys).length = (n + m') * i.size := by rw [List.length_append, hx, hm, Nat.add_mul]
    by_cases hroom : n + m' ≤ cap
    · have hfit : n * i.size + ys.length ≤ l.toArray.size := by simp only [List.size_toArray]; rw [hm, hl, ← Nat.add_mul]; exact Nat.mul_le_mul_right _ hroom
      have hrun := run_append_room (P := P) w t ty e i ht.und hi b n cap l.toArray hb ⟨b2, off2, none⟩ m' c ys hm hcell h1 hroom hfit
      obtain ⟨mm, hb'⟩ := mod_setRow (l' := l.take (n * i.size) ++ ys ++ l.drop (n * i.size + ys.length)) hb
      refine ⟨_, _, hrun, b, ⟨cap, _, rfl, hb', hroom, hcm, ?_, ?_, hlen2⟩, mm, .inl rfl⟩
      · simp only [List.length_append, List.length_take, List.length_drop]
        simp only [List.size_toArray] at hfit
        omega
      · rw [htk, ← hlen2]
        exact List.take_left
    · have holds : ∀ j u, xs[j]? = some u → w.cell? ((⟨b, 0, none⟩ : Addr).add j) = some u := fun j u hu => by
        have hj : j < xs.length := (List.getElem?_eq_some_iff.1 hu).1
        obtain ⟨b3, off3, cs3, e3, fz3, hp3, ha3, hr3⟩ := h.row
        injection hp3 with hp3; injection hp3 with hp3; injection hp3 with q1 q2 _
        subst q1; subst q2
        have h3 := hr3 j hj
        rw [Nat.zero_add] at h3
        rw [add_none]; simp [World.cell?, ha3, h3, hu]
      have hrun := run_append_grow (P := P) w t ty e i z ht.und hi hz ⟨b, 0, none⟩ n cap xs hx holds ⟨b2, off2, none⟩ m' c ys hm hcell (by omega) (by omega) (growslice_fits (by omega) hby)
      have hge := grownCap_ge w (n + m') cap e
      have hn := new_alloc w.drew (.cells (xs.toArray ++ ys.toArray ++ Builtin.zeroCells z.cells (grownCap w (n + m') cap e - (n + m'))) e)
      refine ⟨_, _, hrun, w.heap.size, ⟨_, xs ++ ys ++ (Builtin.zeroCells z.cells (grownCap w (n + m') cap e - (n + m'))).toList, rfl, ?_, hge, grownCap_le_maxLen w (n + m') cap e hmx, ?_, ?_, hlen2⟩, ?_, .inr (Nat.le_refl _)⟩
      · have := hn.at_
        unfold Blk
        rw [show (w.drew.heap.size) = w.heap.size from rfl] at this
        rw [this]
        congr 2
        apply Array.ext'; simp
      · have hG : n + m' + (grownCap w (n + m') cap e - (n + m')) = grownCap w (n + m') cap e := by omega
        have hZ : (Builtin.zeroCells z.cells (grownCap w (n + m') cap e - (n + m'))).toList.length = (grownCap w (n + m') cap e - (n + m')) * i.size := by rw [Array.length_toList, size_zeroCells, ht.zs]
        rw [List.length_append, List.length_append, hZ, hx, hm, ← Nat.add_mul, ← Nat.add_mul, hG]
      · rw [List.take_append_of_le_length (by rw [hlen2]; exact Nat.le_refl _), ← hlen2, List.take_length]
      · exact ⟨rfl, rfl, rfl, by show _ ≤ (w.heap.push _).size; simp, fun k hk _ => heap_alloc_old w.drew _ k hk⟩
theorem app_nil_run {P : Program} {w : World} {t e ty : TypeId} {size bytes : Nat} {z : Value} (ht : TyS P t e size bytes z) {m : Nat} {y : Value} {ys : List Value} (hy : Sl w y size ys) (hm : ys.length = m * size) (h0 : 0 < m)
    (hbig : m * (bytes + 1) ≤ 140737488355328) : ∃ v' w', (Builtin.append_ #[t, t] ty #[.slice none 0 0, y]).run P w = .ok v' w' ∧ AppR [] none w e size m ys v' w' := by
  obtain ⟨i, hi, hz, rfl, rfl⟩ := ht.parts
  obtain ⟨ao, m', c, rfl, hmc, hlen, hr⟩ := hy
  have hmm : m' = m := Nat.mul_right_cancel ht.pos (hlen.symm.trans hm)
  subst hmm
  have hle : m' ≤ 140737488355328 := Nat.le_trans (Nat.le_mul_of_pos_right _ (Nat.succ_pos _)) hbig
  have hby : m' * i.bytes ≤ 140737488355328 := Nat.le_trans (Nat.mul_le_mul_left _ (Nat.le_succ _)) hbig
  have hmx : m' ≤ maxLen := by unfold maxLen; omega
  have hne : ys ≠ [] := fun h => by
    rw [h] at hm
    have : 0 < m' * i.size := Nat.mul_pos h0 ht.pos
    simp at hm; omega
  obtain ⟨b2, off2, cs2, e2, fz2, hp, ha2, hr2⟩ := hr hne
  injection hp with hp
  subst hp
  have hcell : ∀ j u, ys[j]? = some u → w.cell? ((⟨b2, off2, none⟩ : Addr).add j) = some u := fun j u hu => by
    have hj : j < ys.length := (List.getElem?_eq_some_iff.1 hu).1
    rw [add_none]; simp [World.cell?, ha2, hr2 j hj, hu]
  have hrun := run_append_nil (P := P) w t ty e i z ht.und hi hz ⟨b2, off2, none⟩ m' c ys hm hcell h0 (by omega) (by omega)
  have hge := grownCap_ge w m' 0 e
  have hn := new_alloc w.drew (.cells (ys.toArray ++ Builtin.zeroCells z.cells (grownCap w m' 0 e - m')) e)
  refine ⟨_, _, hrun, w.heap.size, ⟨_, ys ++ (Builtin.zeroCells z.cells (grownCap w m' 0 e - m')).toList, rfl, ?_, hge, grownCap_le_maxLen w m' 0 e hmx, ?_, ?_, hm⟩, ?_, .inr (Nat.le_refl _)⟩
  · have := hn.at_
    unfold Blk
    rw [show (w.drew.heap.size) = w.heap.size from rfl] at this
    rw [this]
    congr 2
    apply Array.ext'; simp
  · have hG : m' + (grownCap w m' 0 e - m') = grownCap w m' 0 e := by omega
    have hZ : (Builtin.zeroCells z.cells (grownCap w m' 0 e - m')).toList.length = (grownCap w m' 0 e - m') * i.size := by rw [Array.length_toList, size_zeroCells, ht.zs]
    rw [List.length_append, hZ, hm, ← Nat.add_mul, hG]
  · rw [List.take_append_of_le_length (by rw [hm]; exact Nat.le_refl _), ← hm, List.take_length]
  · exact ⟨rfl, rfl, rfl, by show _ ≤ (w.heap.push _).size; simp, fun k hk _ => heap_alloc_old w.drew _ k hk⟩

/-! ### Appends, makes, literals, in their places -/
theorem app {P : Program} {w : World} {t e ty : TypeId} {size bytes : Nat} {z : Value} {K : Value → World → Prop} (ht : TyS P t e size bytes z) {b n : Nat} (m : Nat) {v y : Value} {xs ys : List Value} (h : Own w b e size v n xs) (hy : Sl w y size ys) (hm : ys.length = m * size) (h1 : ∀ u ∈ ys, u.oneCell' = true)
    (hbig : (n + m) * (bytes + 1) ≤ 140737488355328) (hK : ∀ v' w' b', Own w' b' e size v' (n + m) (xs ++ ys) → Mod [b] w w' → (b' = b ∨ w.heap.size ≤ b') → K v' w') : Pr P (Builtin.append_ #[t, t] ty #[v, y]) w (.one .any) K := by
  obtain ⟨v', w', hr, b', ho, mm, hb⟩ := app_run (ty := ty) ht h hy hm h1 hbig
  exact ⟨v', w', hr, hK v' w' b' ho mm (by simpa using hb)⟩
theorem app_nil {P : Program} {w : World} {t e ty : TypeId} {size bytes : Nat} {z : Value} {K : Value → World → Prop} (ht : TyS P t e size bytes z) (m : Nat) {y : Value} {ys : List Value} (hy : Sl w y size ys) (hm : ys.length = m * size) (h0 : 0 < m)
    (hbig : m * (bytes + 1) ≤ 140737488355328) (hK : ∀ v' w' b', Own w' b' e size v' m ys → Mod [] w w' → w.heap.size ≤ b' → K v' w') : Pr P (Builtin.append_ #[t, t] ty #[.slice none 0 0, y]) w (.one .any) K := by
  obtain ⟨v', w', hr, b', ho, mm, hb⟩ := app_nil_run (ty := ty) ht hy hm h0 hbig
  exact ⟨v', w', hr, hK v' w' b' ho mm (by simpa using hb)⟩
theorem mk_run {P : Program} {t e : TypeId} {bytes : Nat} {z : Value} (ht : TyS P t e 1 bytes z) (xs : List Value) {parts : Array (Nat × Value)} {n : Nat} (hn : xs.length = n) (hp : ∀ init : Array Value, init.size = n → Instr.fill (fun i => some (i * 1, 1)) init parts.toList = some xs.toArray)
    (hsm : n ≤ 16777216) (w : World) : (Instr.buildSlice t n parts).run P w = .ok (.slice (some ⟨w.heap.size, 0, none⟩) n n) (w.alloc (.cells xs.toArray e)) := by
  obtain ⟨i, hi, hzi, hs, hb⟩ := ht.parts
  have hsz : (P.info? e).map (·.size) = some 1 := by rw [hi]; exact congrArg some hs
  have hzz : (P.info? e).map (·.zero) = some (some z) := by rw [hi]; exact congrArg some hzi
  unfold Instr.buildSlice
  simp only [Sem.run_bind, run_underlying ht.und, Result.andThen_ok, sizeOf_run hsz]
  rw [if_neg (by omega)]
  by_cases h0 : n = 0
  · subst h0
    have hx : xs = [] := List.eq_nil_of_length_eq_zero hn
    subst hx
    simp only [Nat.zero_mul, if_true, Sem.run_pure, Result.andThen_ok, Sem.run_bind]
    rw [hp _ (by simp)]
    rfl
  · rw [if_neg (by omega)]
    simp only [Sem.run_bind, zero_run hzz, Result.andThen_ok, Sem.run_pure]
    rw [hp _ (by simp)]
    rfl
theorem fill1 {x : Value} (hx : x.cells = #[x]) : ∀ init : Array Value, init.size = 1 → Instr.fill (fun i => some (i * 1, 1)) init #[(0, x)].toList = some [x].toArray := by
  rintro ⟨l⟩ h
  match l, h with
  | [a], _ => simp [Instr.fill, hx]
theorem fill2 {x y : Value} (hx : x.cells = #[x]) (hy : y.cells = #[y]) : ∀ init : Array Value, init.size = 2 → Instr.fill (fun i => some (i * 1, 1)) init #[(0, x), (1, y)].toList = some [x, y].toArray := by
  rintro ⟨l⟩ h
  match l, h with
  | [a, b], _ => simp [Instr.fill, hx, hy]
theorem fill3 {x y u : Value} (hx : x.cells = #[x]) (hy : y.cells = #[y]) (hu : u.cells = #[u]) : ∀ init : Array Value, init.size = 3 → Instr.fill (fun i => some (i * 1, 1)) init #[(0, x), (1, y), (2, u)].toList = some [x, y, u].toArray := by
  rintro ⟨l⟩ h
  match l, h with
  | [a, b, c], _ => simp [Instr.fill, hx, hy, hu]
theorem mk0 {P : Program} {w : World} {t e : TypeId} {bytes : Nat} {z : Value} {K : Value → World → Prop} (ht : TyS P t e 1 bytes z) (hK : ∀ b w', New w w' b (.cells ([] : List Value).toArray e) → Own w' b e 1 (.slice (some ⟨b, 0, none⟩) 0 0) 0 [] → K (.slice (some ⟨b, 0, none⟩) 0 0) w') :
    Pr P (Instr.buildSlice t 0 #[]) w (.one .any) K :=
  ⟨_, _, mk_run (n := 0) ht [] rfl (fun init h => by rcases init with ⟨l⟩; cases l with | nil => rfl | cons _ _ => cases h) (by omega) w, hK _ _ (new_alloc w _) (own_new (new_alloc w _).at_ rfl (by unfold maxLen; omega))⟩
theorem mk1 {P : Program} {w : World} {t e : TypeId} {bytes : Nat} {z x : Value} {K : Value → World → Prop} (ht : TyS P t e 1 bytes z) (hx : x.cells = #[x]) (hK : ∀ b w', New w w' b (.cells [x].toArray e) → Own w' b e 1 (.slice (some ⟨b, 0, none⟩) 1 1) 1 [x] → K (.slice (some ⟨b, 0, none⟩) 1 1) w') :
    Pr P (Instr.buildSlice t 1 #[(0, x)]) w (.one .any) K :=
  ⟨_, _, mk_run (n := 1) ht [x] rfl (fill1 hx) (by omega) w, hK _ _ (new_alloc w _) (own_new (new_alloc w _).at_ rfl (by unfold maxLen; omega))⟩
theorem mk2 {P : Program} {w : World} {t e : TypeId} {bytes : Nat} {z x y : Value} {K : Value → World → Prop} (ht : TyS P t e 1 bytes z) (hx : x.cells = #[x]) (hy : y.cells = #[y]) (hK : ∀ b w', New w w' b (.cells [x, y].toArray e) → Own w' b e 1 (.slice (some ⟨b, 0, none⟩) 2 2) 2 [x, y] → K (.slice (some ⟨b, 0, none⟩) 2 2) w') :
    Pr P (Instr.buildSlice t 2 #[(0, x), (1, y)]) w (.one .any) K :=
  ⟨_, _, mk_run (n := 2) ht [x, y] rfl (fill2 hx hy) (by omega) w, hK _ _ (new_alloc w _) (own_new (new_alloc w _).at_ rfl (by unfold maxLen; omega))⟩
theorem mk3 {P : Program} {w : World} {t e : TypeId} {bytes : Nat} {z x y u : Value} {K : Value → World → Prop} (ht : TyS P t e 1 bytes z) (hx : x.cells = #[x]) (hy : y.cells = #[y]) (hu : u.cells = #[u]) (hK : ∀ b w', New w w' b (.cells [x, y, u].toArray e) → Own w' b e 1 (.slice (some ⟨b, 0, none⟩) 3 3) 3 [x, y, u] → K (.slice (some ⟨b, 0, none⟩) 3 3) w') :
    Pr P (Instr.buildSlice t 3 #[(0, x), (1, y), (2, u)]) w (.one .any) K :=
  ⟨_, _, mk_run (n := 3) ht [x, y, u] rfl (fill3 hx hy hu) (by omega) w, hK _ _ (new_alloc w _) (own_new (new_alloc w _).at_ rfl (by unfold maxLen; omega))⟩

/-! ### Numbers and bools -/
theorem cvt {P : Program} {src dst : TypeId} {k k' : IntKind} {n : Int} {K : Int → Prop} (hs : (P.underlying src).isSome = true) (hd : P.underlying dst = some (.int k')) (hK : K (k'.wrap n)) : QAll P (convert src dst (.int k n)) (.int k') K := by
  refine ⟨k'.wrap n, fun w => ?_, hK⟩
  obtain ⟨d, hd'⟩ := Option.isSome_iff_exists.1 hs
  unfold convert
  simp only [Sem.run_bind, run_underlying hd', run_underlying hd, Result.andThen_ok]
  cases d <;> rfl
theorem wrap_small {n : Int} (h0 : -9223372036854775808 ≤ n) (h1 : n ≤ 9223372036854775807) : IntKind.i64.wrap n = n := IntWalk.i64_in n ⟨h0, h1⟩
theorem wrap_u8 {n : Int} (h0 : 0 ≤ n) (h1 : n < 256) : IntKind.u8.wrap n = n := IntWalk.u8_in n ⟨h0, by omega⟩
theorem mn {P : Program} {k : IntKind} {at_ : Array TypeId} {ty : TypeId} {x y : Int} {K : Int → Prop} (hK : K (if y < x then y else x)) : QAll P (Builtin.min_ at_ ty #[.int k x, .int k y]) (.int k) K :=
  ⟨_, fun _ => rfl, hK⟩
theorem mx {P : Program} {k : IntKind} {at_ : Array TypeId} {ty : TypeId} {x y : Int} {K : Int → Prop} (hK : K (if y > x then y else x)) : QAll P (Builtin.max_ at_ ty #[.int k x, .int k y]) (.int k) K :=
  ⟨_, fun _ => rfl, hK⟩
theorem eqB_run {P : Program} {t : TypeId} (ht : P.underlying t = some .bool) (ox oy : Operand) (a b : Bool) (w : World) : (do eqGuard .eql t ox oy (.bool a) (.bool b); binOp .eql t (.bool a) (.bool b) : Sem Value).run P w = .ok (.bool (a == b)) w := by
  rw [Sem.run_bind, show (eqGuard .eql t ox oy (.bool a) (.bool b)).run P w = .ok () w from rfl]
  exact run_eql_bool w t a b ht
theorem neqB_run {P : Program} {t : TypeId} (ht : P.underlying t = some .bool) (ox oy : Operand) (a b : Bool) (w : World) : (do eqGuard .neq t ox oy (.bool a) (.bool b); binOp .neq t (.bool a) (.bool b) : Sem Value).run P w = .ok (.bool (a != b)) w := by
  rw [Sem.run_bind, show (eqGuard .neq t ox oy (.bool a) (.bool b)).run P w = .ok () w from rfl]
  simp only [Result.andThen_ok, binOp, Sem.run_bind, run_equal_bool w t a b ht]
  rfl
theorem eqB {P : Program} {t : TypeId} {ox oy : Operand} {a b : Bool} {K : Bool → Prop} (ht : P.underlying t = some .bool) (hK : K (a == b)) : QAll P (do eqGuard .eql t ox oy (.bool a) (.bool b); binOp .eql t (.bool a) (.bool b)) .bool K :=
  ⟨_, fun w => eqB_run ht ox oy a b w, hK⟩
theorem neqB {P : Program} {t : TypeId} {ox oy : Operand} {a b : Bool} {K : Bool → Prop} (ht : P.underlying t = some .bool) (hK : K (a != b)) : QAll P (do eqGuard .neq t ox oy (.bool a) (.bool b); binOp .neq t (.bool a) (.bool b)) .bool K :=
  ⟨_, fun w => neqB_run ht ox oy a b w, hK⟩
theorem part_run {P : Program} {e : TypeId} {z : Value} {n : Nat} (ht : Ty1 P e z n) {l : List Value} {off : Nat} {v : Value} (hv : l[off]? = some v) (w : World) : (part e l.toArray off).run P w = .ok v w := by
  obtain ⟨d, hd, hf⟩ := ht.und
  unfold part
  rw [Sem.run_bind, isAgg_run hd, hf]
  simp [hv]
theorem ixV {P : Program} {t e : TypeId} {len bytes : Nat} {z : Value} {l : List Value} {k : IntKind} {i : Int} {tk : TK} {x : tk.T} {K : tk.T → Prop} (hu : P.underlying t = some (.array len e)) (ht : Ty1 P e z bytes) (h0 : 0 ≤ i) (h1 : i < len) (hv : l[i.toNat]? = some (tk.val x)) (hK : K x) :
    QAll P (Instr.index t (.agg l.toArray) (.int k i)) tk K := by
  refine ⟨x, fun w => ?_, hK⟩
  unfold Instr.index
  simp only [asIntOf, Sem.run_bind, Sem.run_pure, Result.andThen_ok, run_underlying hu]
  rw [if_pos ⟨h0, h1⟩]
  simp only [Sem.run_bind, sizeOf_run ht.size, Result.andThen_ok, Nat.mul_one]
  exact part_run ht hv w

/-! ### Places in own blocks -/
theorem ixRp {P : Program} {t e : TypeId} {len b off : Nat} {k : IntKind} {i : Int} {K : Value → Prop} (ht : TyR P t e len 1) (h0 : 0 ≤ i) (h1 : i < len) (hK : K (ptr b (off + i.toNat))) : QAll P (Instr.indexAt t (ptr b off) (.int k i)) .any K :=
  ixR ht ⟨_, rfl⟩ h0 h1 (by simpa [padd, add_none] using hK)
theorem fldp {P : Program} {s : TypeId} {f o b off : Nat} {K : Value → Prop} (ht : TyF P s f o) (hK : K (ptr b (off + o))) : QAll P (Instr.fieldAt s (ptr b off) f) .any K :=
  fld ht (.inl ⟨_, rfl⟩) ⟨_, rfl⟩ (by simpa [padd, add_none] using hK)
theorem fill_step {α : Type} {xs zs : List α} {i : Nat} (h : i < xs.length) (hl : xs.length = zs.length) : (xs.take i ++ zs.drop i).set i xs[i] = xs.take (i + 1) ++ zs.drop (i + 1) := by
  apply List.ext_getElem?
  intro j
  by_cases hj : i = j
  · subst hj
    rw [List.getElem?_set_self (by simp; omega), List.getElem?_append_left (by simp; omega), List.getElem?_take_of_lt (by omega), List.getElem?_eq_getElem h]
  · rw [List.getElem?_set_ne hj]
    by_cases hlt : j < i
    · rw [List.getElem?_append_left (by simp; omega), List.getElem?_append_left (by simp; omega), List.getElem?_take_of_lt hlt, List.getElem?_take_of_lt (by omega)]
    · rw [List.getElem?_append_right (by simp; omega), List.getElem?_append_right (by simp; omega), List.getElem?_drop, List.getElem?_drop]
      congr 1
      simp only [List.length_take]
      omega

/-- A function value is called. -/
theorem cv {P : Program} {f : FuncId} {first cap args all : Array Value} {w : World} {t : RT} {K : t.T → World → Prop} (ha : first ++ args ++ cap = all) (h : Fc P f all w t K) : callV P (.func (.func f) first cap) args w t K := by
  subst ha; exact h

/-! ### Tests -/
theorem ne_f {a b : Int} (h : (a != b) = false) : a = b := by simpa using h
theorem ne_t {a b : Int} (h : (a != b) = true) : a ≠ b := by simpa using h
theorem eq_f {a b : Int} (h : (a == b) = false) : a ≠ b := by simpa using h
theorem eq_t {a b : Int} (h : (a == b) = true) : a = b := by simpa using h
theorem not_f {b : Bool} (h : (!b) = false) : b = true := by simpa using h
theorem not_t {b : Bool} (h : (!b) = true) : b = false := by simpa using h
theorem dec_t {p : Prop} {_ : Decidable p} (h : decide p = true) : p := of_decide_eq_true h
theorem dec_f {p : Prop} {_ : Decidable p} (h : decide p = false) : ¬ p := of_decide_eq_false h
theorem notd_f {p : Prop} {_ : Decidable p} (h : (!decide p) = false) : p := of_decide_eq_true (not_f h)
theorem notd_t {p : Prop} {_ : Decidable p} (h : (!decide p) = true) : ¬ p := of_decide_eq_false (not_t h)

/-! ### Loops -/
/-- A loop by what holds at each round's head, and a measure. -/
theorem lp {U S : Type} {c : Code} {u : U} {body : (U → S → World → Prop) → S → World → Prop} {s : S} {w : World} (I : S → World → Prop) (μ : S → World → Nat) (h0 : I s w)
    (step : ∀ s w (N : U → S → World → Prop), I s w → (∀ s' w', I s' w' → μ s' w' < μ s w → N u s' w') → body N s w) : At c c (LOOP u body s w) :=
  ⟨rfl, ⟨⟨I, μ, h0, fun s w hI => step s w _ hI fun _ _ h1 h2 => ⟨rfl, h1, h2⟩⟩⟩⟩
end Go.Proofs.YtmecbbanklffgaaDoor.Mem

/- The table of kinds, the types and the functions by their names. No condition. -/
namespace Go.Proofs.YtmecbbanklffgaaDoor
open Go Go.RowKit Eng Mem
set_option linter.unusedVariables false
set_option maxRecDepth 100000
/-- The kinds of the program's types, by their numbers. -/
abbrev ty : List RT := [.unit, (.one .any), (.one (.int .i64)), (.one (.int .i64)), (.one .bool), (.one (.int .u8)), (.one (.int .u8)), (.one .any), (.one .any), (.one .str), (.one .str), (.one .str), (.one (.int .u64)), (.one .any), (.one .any), (.one .any), (.one .any), (.one .any), (.one .any), (.one .any), (.one .any), (.one (.int .i32)), (.one .any), (.one .any), (.one .any), (.two .any (.int .i64)), (.one .any), (.one .any), (.one .any), (.two .any .bool), (.one .any), (.three .str .str .bool), (.one .any), (.two (.int .i64) .bool), (.one .any), (.one .any), (.one .any), (.one .any), (.one .any), (.one .any), (.one .any), (.one .any), (.one .any), (.one .any), (.one .any), (.one .any), (.one .any), (.two (.int .i64) .any), (.one .any), (.one .any), (.one .any), (.one .any), (.one .any), (.one .any), (.one .any), (.one .any), (.one .any), (.one .any), (.one .any), (.one .any), (.one .any), (.one .any), (.two (.int .i64) .any), (.one .any), (.two (.int .i32) (.int .i64)), (.one .any), (.one .any), (.one .any), (.one (.int .u64)), (.one (.int .i64)), (.one (.int .u64)), (.two (.int .u64) .any), (.one .any), (.one .any), (.one .any), (.one .any), (.one .any), (.one .any), (.one (.int .u32)), (.two (.int .u32) (.int .u32)), (.one .any), (.one .any), (.one .any), (.one .any), (.one .any), (.one .any), (.one .any), (.one .any), (.one .any), (.one .any), (.two .any .str), (.one .any), (.one .any), (.one .any), (.one .any), (.one .any), (.one .any), (.one .any), (.one .any), (.one .any), (.one .any), (.one .any), (.one .any), (.one .any), (.one .any), (.one .any), (.one .any), (.one .any), (.one .any), (.one .any), (.one .any), (.one .any), (.one .any), (.one .any), (.one .any), (.one .any), (.one (.int .u8)), (.one (.int .u8)), (.one .any), (.one (.int .i32)), (.one (.int .i32)), (.one .any), (.one .any), (.one .any), (.one .any)]
theorem follows : Tryd.prog.follows .mixedOrders = true := by kernel_rfl
abbrev tI : TypeId := 2
abbrev tN : TypeId := 3
abbrev tb : TypeId := 4
abbrev tB : TypeId := 5
abbrev tS : TypeId := 9
abbrev tU : TypeId := 70
abbrev tSI : TypeId := 124
abbrev tA : TypeId := 22
abbrev tC : TypeId := 24
abbrev tSB : TypeId := 53
abbrev tPC : TypeId := 51
abbrev tSS : TypeId := 40
theorem yI : Ty1 Tryd.prog tI (.int .i64 0) 8 := ⟨⟨_, Tryd.underlying2, rfl⟩, by kernel_rfl, rfl⟩
theorem yN : Ty1 Tryd.prog tN (.int .i64 0) 8 := ⟨⟨_, Tryd.underlying3, rfl⟩, by kernel_rfl, rfl⟩
theorem yb : Ty1 Tryd.prog tb (.bool false) 1 := ⟨⟨_, Tryd.underlying4, rfl⟩, by kernel_rfl, rfl⟩
theorem yB : Ty1 Tryd.prog tB (.int .u8 0) 1 := ⟨⟨_, Tryd.underlying5, rfl⟩, by kernel_rfl, rfl⟩
theorem yU : Ty1 Tryd.prog tU (.int .u64 0) 8 := ⟨⟨_, Tryd.underlying70, rfl⟩, by kernel_rfl, rfl⟩
theorem y1SI : Ty1 Tryd.prog tSI (.slice none 0 0) 24 := ⟨⟨_, Tryd.underlying124, rfl⟩, by kernel_rfl, rfl⟩
theorem y1PC : Ty1 Tryd.prog tPC (.pointer none) 8 := ⟨⟨_, Tryd.underlying51, rfl⟩, by kernel_rfl, rfl⟩
theorem y1SB : Ty1 Tryd.prog tSB (.slice none 0 0) 24 := ⟨⟨_, Tryd.underlying53, rfl⟩, by kernel_rfl, rfl⟩
theorem y1S : Ty1 Tryd.prog tS (.string ⟨#[]⟩) 16 := ⟨⟨_, Tryd.underlying9, rfl⟩, by kernel_rfl, rfl⟩
theorem ySI : TyS Tryd.prog tSI tI 1 8 (.int .i64 0) := ⟨Tryd.underlying124, by kernel_rfl, rfl, by omega⟩
theorem ySB : TyS Tryd.prog tSB tB 1 1 (.int .u8 0) := ⟨Tryd.underlying53, by kernel_rfl, rfl, by omega⟩
theorem ySS : TyS Tryd.prog tSS tS 1 16 (.string ⟨#[]⟩) := ⟨Tryd.underlying40, by kernel_rfl, rfl, by omega⟩
theorem Tryd.underlyingTI : Tryd.prog.underlying tI = some (.int .i64) := Tryd.underlying2
theorem Tryd.underlyingTB : Tryd.prog.underlying tB = some (.int .u8) := Tryd.underlying5
theorem Tryd.underlyingTN : Tryd.prog.underlying tN = some (.int .i64) := Tryd.underlying3
theorem Tryd.underlyingTb : Tryd.prog.underlying tb = some (.bool) := Tryd.underlying4
theorem Tryd.underlyingTA : Tryd.prog.underlying tA = some (.array 136 tB) := Tryd.underlying22
def zA : List Value := List.replicate 136 (.int .u8 0)
def zC : List Value := .int .i64 0 :: .int .i64 0 :: zA
def zAb : List Value := List.replicate 136 (.bool false)
theorem yA : TyA Tryd.prog tA zA := ⟨⟨_, Tryd.underlying22, rfl⟩, by kernel_rfl⟩
theorem yC : TyA Tryd.prog tC zC := ⟨⟨_, Tryd.underlying24, rfl⟩, by kernel_rfl⟩
theorem yR : TyR Tryd.prog tA tB 136 1 := ⟨Tryd.underlying22, by kernel_rfl, by omega⟩
theorem f0 : TyF Tryd.prog tC 0 0 := ⟨_, _, Tryd.underlying24, rfl, rfl, 0, by kernel_rfl⟩
theorem f1 : TyF Tryd.prog tC 1 1 := ⟨_, _, Tryd.underlying24, rfl, rfl, 0, by kernel_rfl⟩
theorem f2 : TyF Tryd.prog tC 2 2 := ⟨_, _, Tryd.underlying24, rfl, rfl, 135, by kernel_rfl⟩
abbrev tCL : TypeId := tC
theorem yCL : TyA Tryd.prog tCL zC := yC
theorem g0 : TyF Tryd.prog tCL 0 0 := f0
theorem g1 : TyF Tryd.prog tCL 1 1 := f1
theorem g2 : TyF Tryd.prog tCL 2 2 := f2
abbrev F_main_main : FuncId := 0
abbrev F_gosem_cut : FuncId := 1
abbrev F_gosem_cut_init : FuncId := 2
abbrev F_laws_FnExactParseColouring : FuncId := 3
abbrev F_spec_ParseColouring : FuncId := 4
abbrev F_impl_ParseColouring : FuncId := 5
abbrev F_laws_eqColouring : FuncId := 6
abbrev F_spec_l01Read : FuncId := 7
abbrev F_strings_Cut : FuncId := 8
abbrev F_impl_readNumber : FuncId := 9
abbrev F_strings_ReplaceAll : FuncId := 10
abbrev F_impl_areSizes : FuncId := 11
abbrev F_impl_Colouring_isColouring : FuncId := 12
abbrev F_impl_Colouring_text : FuncId := 13
abbrev F_laws_eqByteA136 : FuncId := 14
abbrev F_spec_l01Split : FuncId := 15
abbrev F_spec_l01Number : FuncId := 16
abbrev F_spec_l01In : FuncId := 17
abbrev F_spec_l01Edge : FuncId := 18
abbrev F_internal_stringslite_Cut : FuncId := 19
abbrev F_strconv_ParseInt : FuncId := 20
abbrev F_impl_decimal : FuncId := 21
abbrev F_strings_Replace : FuncId := 22
abbrev F_impl_in : FuncId := 23
abbrev F_impl_Colouring_edges : FuncId := 24
abbrev F_impl_Colouring_at : FuncId := 25
abbrev F_strings_Join : FuncId := 26
abbrev F_internal_stringslite_Index : FuncId := 27
abbrev F_internal_strconv_ParseInt : FuncId := 28
abbrev F_strconv_toError : FuncId := 29
abbrev F_strconv_FormatInt : FuncId := 30
abbrev F_strings_Count : FuncId := 31
abbrev F_strings_Builder_Grow : FuncId := 32
abbrev F_strings_Index : FuncId := 33
abbrev F_strings_Builder_WriteString : FuncId := 34
abbrev F_unicode_utf8_DecodeRuneInString : FuncId := 35
abbrev F_strings_Builder_String : FuncId := 36
abbrev F_impl_number : FuncId := 37
abbrev F_internal_stringslite_IndexByte : FuncId := 38
abbrev F_internal_bytealg_IndexString : FuncId := 39
abbrev F_internal_bytealg_Cutover : FuncId := 40
abbrev F_internal_bytealg_IndexRabinKarp_string : FuncId := 41
abbrev F_internal_strconv_ParseUint : FuncId := 42
abbrev F_strconv_syntaxError : FuncId := 43
abbrev F_strconv_rangeError : FuncId := 44
abbrev F_strconv_baseError : FuncId := 45
abbrev F_strconv_bitSizeError : FuncId := 46
abbrev F_internal_strconv_FormatInt : FuncId := 47
abbrev F_unicode_utf8_RuneCountInString : FuncId := 48
abbrev F_internal_bytealg_CountString : FuncId := 49
abbrev F_strings_Builder_copyCheck : FuncId := 50
abbrev F_strings_Builder_grow : FuncId := 51
abbrev F_unicode_utf8_decodeRuneInStringSlow : FuncId := 52
abbrev F_internal_bytealg_IndexByteString : FuncId := 53
abbrev F_internal_bytealg_hashStr_string : FuncId := 54
abbrev F_internal_strconv_lower : FuncId := 55
abbrev F_internal_strconv_underscoreOK : FuncId := 56
abbrev F_internal_stringslite_Clone : FuncId := 57
abbrev F_errors_New : FuncId := 58
abbrev F_strconv_Itoa : FuncId := 59
abbrev F_internal_strconv_small : FuncId := 60
abbrev F_internal_strconv_numDigits : FuncId := 61
abbrev F_internal_strconv_formatBase10 : FuncId := 62
abbrev F_internal_strconv_formatBits : FuncId := 63
abbrev F_internal_abi_NoEscape : FuncId := 64
abbrev F_internal_bytealg_MakeNoZero : FuncId := 65
abbrev F_internal_strconv_Itoa : FuncId := 66
abbrev F_internal_strconv_log10Pow2 : FuncId := 67
abbrev F_math_bits_Len64 : FuncId := 68
abbrev F_internal_strconv_bool2_int : FuncId := 69
abbrev F_internal_strconv_isPowerOfTwo : FuncId := 70
abbrev F_math_bits_TrailingZeros : FuncId := 71
abbrev F_math_bits_TrailingZeros32 : FuncId := 72
abbrev F_math_bits_TrailingZeros64 : FuncId := 73
abbrev F_runtime_boundsError_Error : FuncId := 74
abbrev F_runtime_boundsError_RuntimeError : FuncId := 75
abbrev F_runtime_errorString_Error : FuncId := 76
abbrev F_runtime_errorString_RuntimeError : FuncId := 77
abbrev F_runtime_plainError_Error : FuncId := 78
abbrev F_runtime_plainError_RuntimeError : FuncId := 79
abbrev F_runtime_errorAddressString_Error : FuncId := 80
abbrev F_runtime_errorAddressString_RuntimeError : FuncId := 81
abbrev F_runtime_TypeAssertionError_Error : FuncId := 82
abbrev F_runtime_TypeAssertionError_RuntimeError : FuncId := 83
abbrev F_runtime_PanicNilError_Error : FuncId := 84
abbrev F_runtime_PanicNilError_RuntimeError : FuncId := 85
abbrev F_internal_abi_Type_Align : FuncId := 86
abbrev F_internal_runtime_maps_unhashableTypeError_Error : FuncId := 87
abbrev F_internal_runtime_maps_unhashableTypeError_RuntimeError : FuncId := 88
abbrev F_impl_Colouring_grown : FuncId := 89
abbrev F_strings_Builder_Reset : FuncId := 90
abbrev F_internal_strconv_Error_Error : FuncId := 91
abbrev F_strconv_NumError_Error : FuncId := 92
abbrev F_errors_errorString_Error : FuncId := 93
abbrev F_internal_abi_Kind_String : FuncId := 94
abbrev F_var_s_door_gosem_cut_vars_holds_initialisers_alone_see_the_manifest_s_row_cutvarsword_look_11_test_files_too : FuncId := 95
abbrev F_var_s_door_internal_strconv_uint64pow10_is_laid_by_its_own_initialiser_plain_data_look_11 : FuncId := 96
abbrev F_var_s_door_math_bits_deBruijn32tab_is_laid_by_its_own_initialiser_plain_data_look_11 : FuncId := 97
abbrev F_var_s_door_math_bits_deBruijn64tab_is_laid_by_its_own_initialiser_plain_data_look_11 : FuncId := 98
abbrev F_var_s_door_strconv_ErrRange_is_laid_by_its_own_call_of_errors_New_on_one_literal_look_11 : FuncId := 99
abbrev F_var_s_door_strconv_ErrSyntax_is_laid_by_its_own_call_of_errors_New_on_one_literal_look_11 : FuncId := 100
abbrev F_var_s_door_the_look_of_gosem_cut_vars_went_over_the_folder_that_the_caller_named_as_the_repository_s_root_look_11 : FuncId := 101
abbrev F_var_s_door_unicode_utf8_acceptRanges_is_laid_by_its_own_initialiser_plain_data_look_11 : FuncId := 102
abbrev F_var_s_door_unicode_utf8_first_is_laid_by_its_text_alone_pinned_1 : FuncId := 103
abbrev F_gosem_cut_vars : FuncId := 104
end Go.Proofs.YtmecbbanklffgaaDoor

/- Colourings as plain data, and how they lie in memory. No condition. -/
namespace Go.Proofs.YtmecbbanklffgaaDoor
open Go Go.RowKit Eng Mem
set_option maxRecDepth 100000

structure Col where
  n : Int
  k : Int
  es : List Int
deriving DecidableEq
def Col.cells (c : Col) : List Value := .int .i64 c.n :: .int .i64 c.k :: c.es.map (Value.int .u8)
def Col.val (c : Col) : Value := .agg c.cells.toArray
structure Col.Ok (c : Col) : Prop where
  len : c.es.length = 136
  byte : ∀ e ∈ c.es, 0 ≤ e ∧ e < 256
  n0 : -9223372036854775808 ≤ c.n
  n1 : c.n ≤ 9223372036854775807
  k0 : -9223372036854775808 ≤ c.k
  k1 : c.k ≤ 9223372036854775807
def Col.e (c : Col) (i : Nat) : Int := c.es.getD i 0
/-- How many edges there are between so many points. -/
def edgesOf (n : Int) : Int := n * (n - 1) / 2
/-- The number of the edge of i and j, i less than j. -/
def enum (i j : Int) : Int := j * (j - 1) / 2 + i
def Col.Is (c : Col) : Prop := 1 ≤ c.n ∧ c.n ≤ 17 ∧ 1 ≤ c.k ∧ c.k ≤ 4 ∧ ∀ i : Nat, i < 136 → if (i : Int) < edgesOf c.n then c.e i < c.k else c.e i = 0
instance (c : Col) : Decidable c.Is := by unfold Col.Is; infer_instance
theorem edges_le {n : Int} (h0 : 1 ≤ n) (h1 : n ≤ 17) : 0 ≤ edgesOf n ∧ edgesOf n ≤ 136 := by
  have : n = 1 ∨ n = 2 ∨ n = 3 ∨ n = 4 ∨ n = 5 ∨ n = 6 ∨ n = 7 ∨ n = 8 ∨ n = 9 ∨ n = 10 ∨ n = 11 ∨ n = 12 ∨ n = 13 ∨ n = 14 ∨ n = 15 ∨ n = 16 ∨ n = 17 := by omega
  rcases this with h | h | h | h | h | h | h | h | h | h | h | h | h | h | h | h | h <;> subst h <;> decide
theorem Col.Ok.e_bd {c : Col} (h : c.Ok) (i : Nat) : 0 ≤ c.e i ∧ c.e i < 256 := by
  unfold Col.e
  by_cases hi : i < c.es.length
  · rw [List.getD_eq_getElem?_getD, List.getElem?_eq_getElem hi]
    exact h.byte _ (List.getElem_mem hi)
  · rw [List.getD_eq_getElem?_getD, List.getElem?_eq_none (by omega)]
    simp
abbrev ColAt (w : World) (p : Value) (c : Col) : Prop := Row w p c.cells
theorem Col.Ok.cells_len {c : Col} (h : c.Ok) : c.cells.length = zC.length := by
  simp [Col.cells, h.len, zC, zA]
theorem Col.cells_one (c : Col) : ∀ v ∈ c.cells, v.oneCell' = true := by
  intro v hv
  simp only [Col.cells, List.mem_cons, List.mem_map] at hv
  rcases hv with rfl | rfl | ⟨e, _, rfl⟩ <;> rfl
theorem col_n {w : World} {p : Value} {c : Col} {K : Int → Prop} (hx : ColAt w p c) (hK : K c.n) : QAll Tryd.prog (Instr.fieldAt tC p 0) .any fun q => QSub Tryd.prog (Instr.loadAt tI q) w (.int .i64) K :=
  fld f0 hx.nonnil hx.isPtr (ld yI (hx.get 0 rfl) hK)
theorem col_k {w : World} {p : Value} {c : Col} {K : Int → Prop} (hx : ColAt w p c) (hK : K c.k) : QAll Tryd.prog (Instr.fieldAt tC p 1) .any fun q => QSub Tryd.prog (Instr.loadAt tI q) w (.int .i64) K :=
  fld f1 hx.nonnil hx.isPtr (ld yI (hx.get 1 rfl) hK)
theorem Col.es_row {w : World} {p : Value} {c : Col} (hx : ColAt w p c) : Row w (padd p 2) (c.es.map (Value.int .u8)) :=
  hx.sub 2 fun i hi => by simp [Col.cells, Nat.add_comm 2 i]
theorem Col.e_get {c : Col} (h : c.Ok) {i : Nat} (hi : i < 136) : (c.es.map (Value.int .u8))[i]? = some (.int .u8 (c.e i)) := by
  have : i < c.es.length := by rw [h.len]; exact hi
  simp [Col.e, this]
theorem es_e {w : World} {q : Value} {c : Col} {ik : IntKind} {i : Int} {K : Int → Prop} (h : c.Ok) (hq : Row w q (c.es.map (Value.int .u8))) (h0 : 0 ≤ i) (h1 : i < 136) (hK : K (c.e i.toNat)) : QAll Tryd.prog (Instr.indexAt tA q (.int ik i)) .any fun r => QSub Tryd.prog (Instr.loadAt tB r) w (.int .u8) K :=
  ixR yR hq.isPtr h0 h1 (ld yB (by rw [Nat.mul_one]; exact hq.get _ (Col.e_get h (by omega))) hK)
theorem col_e {w : World} {p : Value} {c : Col} {ik : IntKind} {i : Int} {K : Int → Prop} (h : c.Ok) (hx : ColAt w p c) (h0 : 0 ≤ i) (h1 : i < 136) (hK : K (c.e i.toNat)) :
    QAll Tryd.prog (Instr.fieldAt tC p 2) .any fun q => QAll Tryd.prog (Instr.indexAt tA q (.int ik i)) .any fun r => QSub Tryd.prog (Instr.loadAt tB r) w (.int .u8) K :=
  fld f2 hx.nonnil hx.isPtr (es_e h (Col.es_row hx) h0 h1 hK)
theorem col_all {w : World} {p : Value} {c : Col} {K : Value → Prop} (h : c.Ok) (hx : ColAt w p c) (hK : K c.val) : QSub Tryd.prog (Instr.loadAt tC p) w .any K :=
  ldA yC h.cells_len hx hK
theorem col_box {w : World} {c : Col} {K : Value → World → Prop} (hK : ∀ b w', New w w' b (.cells c.cells.toArray tC) → ColAt w' (ptr b 0) c → K (ptr b 0) w') : Pr Tryd.prog (Instr.box tC c.val) w (.one .any) K :=
  box c.cells rfl fun b w' hn => hK b w' hn (row_all hn.at_)
theorem u8_int {n : Int} {K : Int → Prop} (h0 : 0 ≤ n) (h1 : n < 256) (hK : K n) : QAll Tryd.prog (convert tB tI (.int .u8 n)) (.int .i64) K :=
  cvt (by rw [Tryd.underlyingTB]; rfl) Tryd.underlyingTI (by rwa [wrap_small (by omega) (by omega)])
/-- What a place of the edges must hold. -/
def Col.at_ (c : Col) (i : Nat) : Prop := if (i : Int) < edgesOf c.n then c.e i < c.k else c.e i = 0
theorem wedges {n : Int} (h0 : 0 ≤ n) (h1 : n ≤ 17) : IntKind.i64.wrap (Int.tdiv (IntKind.i64.wrap (n * IntKind.i64.wrap (n - 1))) 2) = edgesOf n := by
  have : n = 0 ∨ n = 1 ∨ n = 2 ∨ n = 3 ∨ n = 4 ∨ n = 5 ∨ n = 6 ∨ n = 7 ∨ n = 8 ∨ n = 9 ∨ n = 10 ∨ n = 11 ∨ n = 12 ∨ n = 13 ∨ n = 14 ∨ n = 15 ∨ n = 16 ∨ n = 17 := by omega
  rcases this with h | h | h | h | h | h | h | h | h | h | h | h | h | h | h | h | h | h <;> subst h <;> decide
theorem Col.is_false {c : Col} (h : ¬ c.Is) : decide c.Is = false := decide_eq_false h
theorem Col.is_true {c : Col} (h : c.Is) : decide c.Is = true := decide_eq_true h
theorem Col.Ok.es_len {c : Col} (h : c.Ok) : (c.es.map (Value.int .u8)).length = zA.length := by simp [h.len, zA]
end Go.Proofs.YtmecbbanklffgaaDoor

/- Slices of int64 as plain lists. No condition. -/
namespace Go.Proofs.YtmecbbanklffgaaDoor
open Go Go.RowKit Eng Mem
set_option maxRecDepth 100000
abbrev iv (l : List Int) : List Value := l.map (Value.int .i64)
structure SlI (w : World) (v : Value) (l : List Int) : Prop where
  sl : Sl w v 1 (iv l)
  len : l.length ≤ 4611686018427387904
/-- Each is an int64. -/
def InI (l : List Int) : Prop := ∀ x ∈ l, -9223372036854775808 ≤ x ∧ x ≤ 9223372036854775807
abbrev OwnI (w : World) (b : Nat) (v : Value) (l : List Int) : Prop := Own w b tI 1 v l.length (iv l)
theorem SlI.keep {w w' : World} {v : Value} {l : List Int} (h : SlI w v l) (hb : Below w.heap.size w w') : SlI w' v l := ⟨h.sl.keep hb, h.len⟩
theorem own_slI {w : World} {b : Nat} {v : Value} {l : List Int} (h : OwnI w b v l) (hl : l.length ≤ 4611686018427387904) : SlI w v l := ⟨h.sl, hl⟩
theorem slI_nil (w : World) : SlI w (.slice none 0 0) [] := ⟨Sl.nil w 1, by simp⟩
theorem iv_one (l : List Int) : ∀ u ∈ iv l, u.oneCell' = true := fun u hu => by obtain ⟨e, _, rfl⟩ := List.mem_map.1 hu; rfl
theorem iv_get (l : List Int) {i : Nat} (h : i < l.length) : (iv l)[i]? = some (.int .i64 (l.getD i 0)) := by simp [iv, h]
theorem lenI {w : World} {v : Value} {l : List Int} {t : TypeId} {K : Int → Prop} (h : SlI w v l) (hK : K (l.length : Int)) : QAll Tryd.prog (Builtin.len_ #[tSI] t #[v]) (.int .i64) K :=
  len ySI h.sl (by simpa using hK)
/-- An element's place. -/
theorem ixI {w : World} {v : Value} {l : List Int} {k : IntKind} {i : Int} {K : Value → Prop} (h : SlI w v l) (h0 : 0 ≤ i) (h1 : i < l.length) (hK : ∀ p, Cell w p (.int .i64 (l.getD i.toNat 0)) → K p) :
    QAll Tryd.prog (Instr.indexAt tSI v (.int k i)) .any K :=
  ixS ySI h.sl h0 (by simp; omega) fun p hp => hK p (hp [_] fun j hj => by
    have : j = 0 := by simp at hj; exact hj
    subst this
    rw [Nat.mul_one, Nat.add_zero, iv_get l (by omega)]
    rfl)
/-- An element is read. -/
theorem atI {w : World} {v : Value} {l : List Int} {k : IntKind} {i : Int} {K : Int → Prop} (h : SlI w v l) (h0 : 0 ≤ i) (h1 : i < l.length) (hK : K (l.getD i.toNat 0)) :
    QAll Tryd.prog (Instr.indexAt tSI v (.int k i)) .any fun p => QSub Tryd.prog (Instr.loadAt tI p) w (.int .i64) K :=
  ixI h h0 h1 fun p hp => ld yI hp hK
/-- An element of an own slice: its place. -/
theorem ixO {w : World} {b : Nat} {v : Value} {l : List Int} {k : IntKind} {i : Int} {K : Value → Prop} (h : OwnI w b v l) (h0 : 0 ≤ i) (h1 : i < l.length) (hK : K (ptr b i.toNat)) :
    QAll Tryd.prog (Instr.indexAt tSI v (.int k i)) .any K := by
  obtain ⟨cap, l', rfl, hb, _⟩ := h.blk
  refine ⟨ptr b i.toNat, fun w' => ?_, hK⟩
  have hs : (Tryd.prog.info? tI).map (·.size) = some 1 := yI.size
  unfold Instr.indexAt
  simp [asIntOf, run_underlying ySI.und, sizeOf_run hs, h0, h1, add_none]
/-- An element of an own slice is written. -/
theorem putI {w : World} {b : Nat} {v : Value} {l : List Int} {k : IntKind} {i x : Int} {K : World → Prop} (h : OwnI w b v l) (h0 : 0 ≤ i) (h1 : i < l.length)
    (hK : ∀ w', Mod [b] w w' → w'.heap.size = w.heap.size → OwnI w' b v (l.set i.toNat x) → K w') :
    QAll Tryd.prog (Instr.indexAt tSI v (.int k i)) .any fun p => PrU Tryd.prog (Instr.storeAt tI p (.int .i64 x)) w K := by
  refine ixO h h0 h1 ?_
  obtain ⟨cap, l', hv, hb, ht, hl⟩ := h.blk
  refine st yI hb (by rw [Nat.mul_one] at hl; omega) rfl fun w' m hs hb' => hK w' m hs ?_
  have := h.set (u := .int .i64 x) hb hb'
  rw [← List.map_set] at this
  rwa [OwnI, List.length_set]
theorem mk_slice_run {P : Program} {t e : TypeId} {bytes : Nat} {z : Value} (ht : TyS P t e 1 bytes z) {k k' : IntKind} {n : Int} (h0 : 0 ≤ n) (h1 : n * (bytes + 1) ≤ 140737488355328) (hz : z.cells = #[z]) (w : World) :
    (Instr.makeSlice t (.int k n) (.int k' n)).run P w = .ok (.slice (some ⟨w.heap.size, 0, none⟩) n.toNat n.toNat) (w.alloc (.cells (List.replicate n.toNat z).toArray e)) := by
  obtain ⟨i, hi, hzi, hs, hb⟩ := ht.parts
  have hb1 : (0 : Int) ≤ n * bytes := Int.mul_nonneg h0 (by omega)
  have hbb : (i.bytes : Int) * n + n ≤ 140737488355328 := by rw [hb, Int.mul_comm]; rw [Int.mul_add, Int.mul_one] at h1; exact h1
  have hb2 : (0 : Int) ≤ i.bytes * n := by rw [hb, Int.mul_comm]; exact hb1
  rw [run_make (P := P) w t e i z ht.und hi hzi k k' n n h0 (Int.le_refl _) (by omega) (by omega), hs, Nat.mul_one]
  have : madeCells z.cells n.toNat = (List.replicate n.toNat z).toArray := by
    rw [hz]
    unfold madeCells
    apply Array.ext
    · simp
    · intro i h1 h2
      simp [Nat.mod_one]
  rw [this]
/-- A slice of noughts is made. -/
theorem mkI {w : World} {k k' : IntKind} {n : Int} {K : Value → World → Prop} (h0 : 0 ≤ n) (h1 : n ≤ 1099511627776) (hK : ∀ b v w', New w w' b (.cells (iv (List.replicate n.toNat 0)).toArray tI) → OwnI w' b v (List.replicate n.toNat 0) → K v w') :
    Pr Tryd.prog (Instr.makeSlice tSI (.int k n) (.int k' n)) w (.one .any) K := by
  refine ⟨_, _, mk_slice_run ySI h0 (by omega) rfl w, ?_⟩
  have e : iv (List.replicate n.toNat 0) = List.replicate n.toNat (.int .i64 0) := by simp [iv]
  have hn := new_alloc w (.cells (List.replicate n.toNat (.int .i64 0)).toArray tI)
  refine hK w.heap.size _ _ (by rw [e]; exact hn) ?_
  unfold OwnI
  rw [e, List.length_replicate]
  exact own_new hn.at_ (by simp) (by unfold maxLen; omega)
/-- An empty slice. -/
theorem nilI {w : World} {K : Value → World → Prop} (hK : ∀ b v w', w.heap.size = b → Below w.heap.size w w' → OwnI w' b v [] → K v w') : Pr Tryd.prog (Instr.buildSlice tSI 0 #[]) w (.one .any) K :=
  mk0 ySI fun b w' hn ho => hK b _ w' hn.here.symm hn.below ho
/-- One more at the end. -/
theorem appI {w : World} {b : Nat} {v : Value} {l : List Int} {x : Int} {t : TypeId} {K : Value → World → Prop} (h : OwnI w b v l) (hl : l.length ≤ 1099511627776)
    (hK : ∀ v' w' b', OwnI w' b' v' (l ++ [x]) → Mod [b] w w' → (b' = b ∨ w.heap.size ≤ b') → K v' w') :
    Pr Tryd.prog (Instr.buildSlice tSI 1 #[(0, .int .i64 x)]) w (.one .any) fun y w1 => Pr Tryd.prog (Builtin.append_ #[tSI, tSI] t #[v, y]) w1 (.one .any) K := by
  refine mk1 ySI rfl fun b1 w1 hn ho => ?_
  have h1 : OwnI w1 b v l := h.keep hn.below
  have hs : SlI w1 (.slice (some ⟨b1, 0, none⟩) 1 1) [x] := ⟨ho.sl, by simp⟩
  have e1 := hn.here; have s1 := hn.size; have lt := h.lt
  refine app ySI 1 h1 hs.sl (by simp) (iv_one _) (by omega) fun v' w' b' o m hb => hK v' w' b' ?_ ((hn.mod.mono (by simp)).trans m) (by omega)
  unfold OwnI
  rw [List.length_append, iv, List.map_append]
  exact o
/-- A slice's elements at the end of an own one. -/
theorem appsI {w : World} {b : Nat} {v y : Value} {l m : List Int} {t : TypeId} {K : Value → World → Prop} (h : OwnI w b v l) (hy : SlI w y m) (hl : l.length + m.length ≤ 1099511627776)
    (hK : ∀ v' w' b', OwnI w' b' v' (l ++ m) → Mod [b] w w' → (b' = b ∨ w.heap.size ≤ b') → K v' w') :
    Pr Tryd.prog (Builtin.append_ #[tSI, tSI] t #[v, y]) w (.one .any) K := by
  refine app ySI m.length h hy.sl (by simp) (iv_one _) (by omega) fun v' w' b' o mm hb => hK v' w' b' ?_ mm hb
  unfold OwnI
  rw [List.length_append, iv, List.map_append]
  exact o
/-- w' is w but for blocks from B up to E, and new ones. -/
structure ModR (B E : Nat) (w w' : World) : Prop where
  os : w'.os = w.os
  tape : w'.tape = w.tape
  output : w'.output = w.output
  size : w.heap.size ≤ w'.heap.size
  block : ∀ k, k < w.heap.size → (k < B ∨ E ≤ k) → w'.heap[k]? = w.heap[k]?
theorem ModR.refl (B E : Nat) (w : World) : ModR B E w w := ⟨rfl, rfl, rfl, Nat.le_refl _, fun _ _ _ => rfl⟩
theorem Mem.Mod.r {b B E : Nat} {w w' : World} (h : Mod [b] w w') (hb : B ≤ b) (he : b < E) : ModR B E w w' := ⟨h.os, h.tape, h.output, h.size, fun k hk hn => h.block k hk (by simp; omega)⟩
theorem ModR.below {B E B0 : Nat} {w w' : World} (h : ModR B E w w') (hB : B0 ≤ B) (hs : B0 ≤ w.heap.size) : Below B0 w w' := ⟨h.os, h.tape, h.output, h.size, fun k hk => h.block k (by omega) (by omega)⟩
theorem Mem.Row.modr {b off B E : Nat} {w w' : World} {vs : List Value} (h : Row w (ptr b off) vs) (m : ModR B E w w') (hd : b < B ∨ E ≤ b) : Row w' (ptr b off) vs := by
  obtain ⟨b', off', cs, e, fz, hp, ha, hr⟩ := h
  injection hp with hp; injection hp with hp; injection hp with h1 h2 _
  subst h1; subst h2
  exact ⟨_, _, cs, e, fz, rfl, by rw [m.block _ (at_lt ha) hd]; exact ha, hr⟩
theorem Mem.Own.modr {b B E e size n : Nat} {w w' : World} {v : Value} {xs : List Value} (h : Own w b e size v n xs) (m : ModR B E w w') (hd : b < B ∨ E ≤ b) : Own w' b e size v n xs := by
  obtain ⟨cap, l', hv, hb, r⟩ := h
  exact ⟨cap, l', hv, by unfold Blk; rw [m.block b (at_lt hb) hd]; exact hb, r⟩
/-- A slice of own: nil, or in a block from B up to E. -/
def MyI (B E : Nat) (w : World) (v : Value) (l : List Int) : Prop := l.length ≤ 1099511627776 ∧ ((v = .slice none 0 0 ∧ l = []) ∨ ∃ b, B ≤ b ∧ b < E ∧ OwnI w b v l)
theorem MyI.len {B E : Nat} {w : World} {v : Value} {l : List Int} (h : MyI B E w v l) : l.length ≤ 1099511627776 := h.1
theorem MyI.sl {B E : Nat} {w : World} {v : Value} {l : List Int} (h : MyI B E w v l) : SlI w v l := by
  rcases h with ⟨hl, ⟨rfl, rfl⟩ | ⟨b, _, _, h⟩⟩
  · exact slI_nil w
  · exact own_slI h (by omega)
theorem MyI.keep {B E : Nat} {w w' : World} {v : Value} {l : List Int} (h : MyI B E w v l) (hb : Below w.heap.size w w') : MyI B E w' v l := by
  rcases h with ⟨hl, h | ⟨b, hB, hE, h⟩⟩
  · exact ⟨hl, .inl h⟩
  · exact ⟨hl, .inr ⟨b, hB, hE, h.keep hb⟩⟩
theorem MyI.modr {B E B' E' : Nat} {w w' : World} {v : Value} {l : List Int} (h : MyI B E w v l) (m : ModR B' E' w w') (hd : E ≤ B' ∨ E' ≤ B) : MyI B E w' v l := by
  rcases h with ⟨hl, h | ⟨b, hB, hE, h⟩⟩
  · exact ⟨hl, .inl h⟩
  · exact ⟨hl, .inr ⟨b, hB, hE, h.modr m (by omega)⟩⟩
theorem MyI.mono {B E B' E' : Nat} {w : World} {v : Value} {l : List Int} (h : MyI B E w v l) (hb : B' ≤ B) (he : E ≤ E') : MyI B' E' w v l := by
  rcases h with ⟨hl, h | ⟨b, hB, hE, h⟩⟩
  · exact ⟨hl, .inl h⟩
  · exact ⟨hl, .inr ⟨b, by omega, by omega, h⟩⟩
theorem myI_nil (B E : Nat) (w : World) : MyI B E w (.slice none 0 0) [] := ⟨by simp, .inl ⟨rfl, rfl⟩⟩
theorem own_my {B E b : Nat} {w : World} {v : Value} {l : List Int} (h : OwnI w b v l) (hl : l.length ≤ 1099511627776) (hB : B ≤ b) (hE : b < E) : MyI B E w v l := ⟨hl, .inr ⟨b, hB, hE, h⟩⟩
/-- What a function of lists may take. -/
structure ArgI (w : World) (v : Value) (l : List Int) : Prop where
  sl : SlI w v l
  len : l.length ≤ 1048576
  ins : InI l
theorem ArgI.keep {w w' : World} {v : Value} {l : List Int} (h : ArgI w v l) (hb : Below w.heap.size w w') : ArgI w' v l := ⟨h.sl.keep hb, h.len, h.ins⟩
abbrev I64 (n : Int) : Prop := -9223372036854775808 ≤ n ∧ n ≤ 9223372036854775807
/-- k, k + 1 and so on. -/
def upto (k : Int) (n : Nat) : List Int := (List.range n).map fun i : Nat => k + (i : Int)
/-- A variable of a colouring, filled at once. -/
theorem col_var {w : World} {c : Col} {K : Value → World → Prop} (h : c.Ok) (hK : ∀ b w', w.heap.size ≤ b → b < w'.heap.size → Below w.heap.size w w' → ColAt w' (ptr b 0) c → K (ptr b 0) w') :
    Pr Tryd.prog (Instr.alloc tC true (.tuple #[])) w (.one .any) fun p w1 => PrU Tryd.prog (Instr.storeAt tC p c.val) w1 fun w2 => K p w2 :=
  allocA yC fun b w1 n1 => stA0 yC n1.at_ h.cells_len (by rw [h.cells_len]) c.cells_one fun w2 m hs hb => by
    have e1 := n1.here; have s1 := n1.size
    exact hK b w2 (by omega) (at_lt hb) (n1.below.trans (m.below (by omega) (by simp; omega))) (blk_row hb)
/-- A law's colouring, boxed. -/
theorem colL_box {w : World} {c : Col} {K : Value → World → Prop} (hK : ∀ b w', w.heap.size ≤ b → b < w'.heap.size → Below w.heap.size w w' → ColAt w' (ptr b 0) c → K (ptr b 0) w') : Pr Tryd.prog (Instr.box tCL c.val) w (.one .any) K :=
  box c.cells rfl fun b w' hn => hK b w' (Nat.le_of_eq hn.here.symm) (at_lt hn.at_) hn.below (row_all hn.at_)
theorem colL_all {w : World} {p : Value} {c : Col} {K : Value → Prop} (h : c.Ok) (hx : ColAt w p c) (hK : K c.val) : QSub Tryd.prog (Instr.loadAt tCL p) w .any K :=
  ldA yCL h.cells_len hx hK
/-- Is it nil? -/
theorem nil_I {w : World} {v : Value} {l : List Int} {ox oy : Operand} {K : Bool → Prop} (h : SlI w v l) (hK : ∀ b : Bool, (b = true → l = []) → K b) :
    QAll Tryd.prog (do eqGuard .eql tSI ox oy v (.slice none 0 0); binOp .eql tSI v (.slice none 0 0)) .bool K := by
  obtain ⟨a, n, c, rfl, hnc, hn, hr⟩ := h.sl
  refine ⟨a.isNone, fun w' => ?_, hK _ fun ha => ?_⟩
  · rw [Sem.run_bind, show (eqGuard .eql tSI ox oy (.slice a n c) (.slice none 0 0)).run Tryd.prog w' = .ok () w' from rfl]
    exact Lib.run_eql_slice_nil w' _ _ a n c 0 0 ySI.und
  · cases a with
    | some _ => cases ha
    | none =>
      rcases l with _ | ⟨x, l⟩
      · rfl
      · obtain ⟨_, _, _, _, _, he, _⟩ := hr (by simp)
        cases he
/-- A slice of two. -/
theorem twoI {w : World} {x y : Int} {K : Value → World → Prop} (hK : ∀ v w', Below w.heap.size w w' → SlI w' v [x, y] → K v w') : Pr Tryd.prog (Instr.buildSlice tSI 2 #[(0, .int .i64 x), (1, .int .i64 y)]) w (.one .any) K :=
  mk2 ySI rfl rfl fun b w' hn ho => hK _ w' hn.below ⟨ho.sl, by simp⟩
end Go.Proofs.YtmecbbanklffgaaDoor

/- What the functions of lists of numbers answer, as plain statements. No condition. -/
namespace Go.Proofs.YtmecbbanklffgaaDoor
open Go Go.RowKit Eng Mem
/-- All of l lie from lo to hi. -/
def AllIn (l : List Int) (lo hi : Int) : Prop := ∀ x ∈ l, lo ≤ x ∧ x ≤ hi
instance (l : List Int) (lo hi : Int) : Decidable (AllIn l lo hi) := by unfold AllIn; infer_instance
theorem AllIn.get {l : List Int} {lo hi : Int} (h : AllIn l lo hi) {i : Nat} (hi' : i < l.length) : lo ≤ l.getD i 0 ∧ l.getD i 0 ≤ hi := by
  have := h l[i] (List.getElem_mem hi')
  simpa [List.getD, hi'] using this
theorem allIn_of {l : List Int} {lo hi : Int} (h : ∀ i : Nat, i < l.length → lo ≤ l.getD i 0 ∧ l.getD i 0 ≤ hi) : AllIn l lo hi := by
  intro x hx
  obtain ⟨i, hi, rfl⟩ := List.getElem_of_mem hx
  have := h i hi
  simpa [List.getD, hi] using this
/-- A part: k colours, at most forty numbers, each less than k. -/
def IsPart (k : Int) (l : List Int) : Prop := 1 ≤ k ∧ k ≤ 3 ∧ l.length ≤ 40 ∧ AllIn l 0 (k - 1)
instance (k : Int) (l : List Int) : Decidable (IsPart k l) := by unfold IsPart; infer_instance
def Sizes (n k : Int) : Prop := 1 ≤ n ∧ n ≤ 17 ∧ 1 ≤ k ∧ k ≤ 4
instance (n k : Int) : Decidable (Sizes n k) := by unfold Sizes; infer_instance
end Go.Proofs.YtmecbbanklffgaaDoor

/- Colourings made edge by edge. No condition. -/
namespace Go.Proofs.YtmecbbanklffgaaDoor
open Go Go.RowKit Eng Mem
set_option maxRecDepth 100000
def col0 : Col := ⟨0, 0, List.replicate 136 0⟩
theorem col0_ok : col0.Ok := ⟨by simp [col0], by simp [col0], by simp [col0], by simp [col0], by simp [col0], by simp [col0]⟩
theorem build0_run (w : World) : (Instr.build tC #[]).run Tryd.prog w = .ok col0.val w := by kernel_rfl
theorem build2_run (n k : Int) (w : World) : (Instr.build tC #[(0, .int .i64 n), (1, .int .i64 k)]).run Tryd.prog w = .ok (⟨n, k, List.replicate 136 0⟩ : Col).val w := by kernel_rfl
theorem build0 {w : World} {K : Value → World → Prop} (hK : K col0.val w) : Pr Tryd.prog (Instr.build tC #[]) w (.one .any) K := ⟨_, w, build0_run w, hK⟩
theorem build2 {w : World} {n k : Int} {K : Value → World → Prop} (hK : K (⟨n, k, List.replicate 136 0⟩ : Col).val w) : Pr Tryd.prog (Instr.build tC #[(0, .int .i64 n), (1, .int .i64 k)]) w (.one .any) K := ⟨_, w, build2_run n k w, hK⟩
/-- A variable of a colouring, at a block at B or above. -/
structure CVar (B : Nat) (w : World) (p : Value) : Prop where
  ex : ∃ b l, p = ptr b 0 ∧ B ≤ b ∧ Blk w b l tC ∧ l.length = zC.length
theorem CVar.keep {B : Nat} {w w' : World} {p : Value} (h : CVar B w p) (hb : Below w.heap.size w w') : CVar B w' p := by
  obtain ⟨b, l, hp, hB, hl, hn⟩ := h
  exact ⟨b, l, hp, hB, below_at hb hl (at_lt hl), hn⟩
theorem CVar.mono {B B' : Nat} {w : World} {p : Value} (h : CVar B w p) (hb : B' ≤ B) : CVar B' w p := by
  obtain ⟨b, l, hp, hB, hl, hn⟩ := h
  exact ⟨b, l, hp, by omega, hl, hn⟩
theorem CVar.mod {B b : Nat} {w w' : World} {p : Value} (h : CVar B w p) (m : Mod [b] w w') (hne : p ≠ ptr b 0) : CVar B w' p := by
  obtain ⟨b', l, rfl, hB, hl, hn⟩ := h
  exact ⟨b', l, rfl, hB, m.at_ hl (by simp; rintro rfl; exact hne rfl), hn⟩
theorem CVar.ne {B b : Nat} {w : World} {p : Value} (h : CVar B w p) (hb : w.heap.size ≤ b) : p ≠ ptr b 0 := by
  obtain ⟨b', l, rfl, hB, hl, hn⟩ := h
  have := at_lt hl
  intro he
  injection he with he; injection he with he; injection he with he
  omega
/-- The result's variable. -/
theorem c_alloc {w : World} {K : Value → World → Prop} (hK : ∀ p w', Below w.heap.size w w' → CVar w.heap.size w' p → K p w') : Pr Tryd.prog (Instr.alloc tC true (.tuple #[])) w (.one .any) K :=
  allocA yC fun b w' hn => hK _ w' hn.below ⟨b, zC, rfl, by have := hn.here; omega, hn.at_, rfl⟩
/-- The result's variable is filled, and read. -/
theorem c_ret {B : Nat} {w : World} {p : Value} {c : Col} {K : Value → World → Prop} (h : c.Ok) (hv : CVar B w p) (hB : B ≤ w.heap.size) (hK : ∀ w', Below B w w' → K c.val w') :
    PrU Tryd.prog (Instr.storeAt tC p c.val) w fun w1 => QSub Tryd.prog (Instr.loadAt tC p) w1 .any fun r => K r w1 := by
  obtain ⟨b, l, rfl, hb, hl, hn⟩ := hv
  exact stA0 yC hl h.cells_len (by rw [h.cells_len, hn]) c.cells_one fun w2 m hs hb2 => ldA yC h.cells_len (blk_row hb2) (hK w2 (m.below (by omega) (by simp; omega)))
/-- The result is nothing. -/
theorem c_none {B : Nat} {w : World} {p : Value} {K : Value → World → Prop} (hv : CVar B w p) (hB : B ≤ w.heap.size) (hK : ∀ w', Below B w w' → K col0.val w') :
    Pr Tryd.prog (Instr.build tC #[]) w (.one .any) fun x w0 => PrU Tryd.prog (Instr.storeAt tC p x) w0 fun w1 => QSub Tryd.prog (Instr.loadAt tC p) w1 .any fun r => K r w1 :=
  build0 (c_ret col0_ok hv hB hK)

/-! ### Numbers of edges -/
theorem edgesOf_succ (j : Int) : edgesOf (j + 1) = edgesOf j + j := by
  unfold edgesOf
  rw [show (j + 1) * (j + 1 - 1) = j * (j - 1) + j * 2 from by rw [Int.add_sub_cancel, Int.add_mul, Int.mul_sub]; omega, Int.add_mul_ediv_right _ _ (by decide)]
theorem edgesOf_mono {j n : Int} (h0 : 0 ≤ j) (h : j ≤ n) : edgesOf j ≤ edgesOf n := by
  obtain ⟨d, rfl⟩ : ∃ d : Nat, n = j + d := ⟨(n - j).toNat, by omega⟩
  clear h
  induction d with
  | zero => simp
  | succ d ih =>
    have := edgesOf_succ (j + d)
    have e : (j : Int) + ((d + 1 : Nat) : Int) = j + d + 1 := by omega
    rw [e, this]
    omega
theorem edges_bd {n : Int} (h0 : 0 ≤ n) (h1 : n ≤ 17) : 0 ≤ edgesOf n ∧ edgesOf n ≤ 136 := by
  have h2 := edgesOf_mono (j := 0) (by omega) h0
  have h3 := edgesOf_mono h0 h1
  have e0 : edgesOf 0 = 0 := by decide
  have e1 : edgesOf 17 = 136 := by decide
  omega
theorem enum_eq (i j : Int) : enum i j = edgesOf j + i := rfl
theorem enum_lt {i j n : Int} (h0 : 0 ≤ i) (h1 : i < j) (h2 : j < n) (_h3 : n ≤ 17) : 0 ≤ enum i j ∧ enum i j < edgesOf n := by
  have h4 := edgesOf_mono (j := j + 1) (n := n) (by omega) (by omega)
  have h5 := edgesOf_succ j
  have h6 := edgesOf_mono (j := 0) (n := j) (by omega) (by omega)
  have e0 : edgesOf 0 = 0 := by decide
  rw [enum_eq]
  omega
/-- The number of the edge of two points. -/
def num (i j : Int) : Int := if i < j then enum i j else enum j i
theorem num_lt {i j n : Int} (h0 : 0 ≤ i) (h1 : i < n) (k0 : 0 ≤ j) (k1 : j < n) (hn : n ≤ 17) (hne : i ≠ j) : 0 ≤ num i j ∧ num i j < edgesOf n := by
  unfold num
  split
  · exact enum_lt h0 (by omega) k1 hn
  · exact enum_lt k0 (by omega) h1 hn
theorem num_of {i j : Int} (h : i < j) : num i j = enum i j := if_pos h
theorem wnum {i j : Int} (h0 : 0 ≤ i) (h1 : i ≤ 17) (k0 : 0 ≤ j) (k1 : j ≤ 17) : IntKind.i64.wrap (IntKind.i64.wrap (Int.tdiv (IntKind.i64.wrap (j * IntKind.i64.wrap (j - 1))) 2) + i) = enum i j := by
  rw [wedges k0 k1, enum_eq]
  have := edges_bd k0 k1
  exact wrap_small (by omega) (by omega)

/-! ### Colourings by a function of the edge's number -/
def esF (f : Nat → Int) (m : Nat) : List Int := (List.range 136).map fun e => if e < m then f e else 0
theorem esF_len (f : Nat → Int) (m : Nat) : (esF f m).length = 136 := by simp [esF]
theorem esF_0 (f : Nat → Int) : esF f 0 = List.replicate 136 0 := by
  apply List.ext_getElem
  · simp [esF]
  · intro i h1 h2; rw [List.getElem_replicate]; simp [esF]
theorem esF_set (f : Nat → Int) {m : Nat} (h : m < 136) : (esF f m).set m (f m) = esF f (m + 1) := by
  apply List.ext_getElem?
  intro i
  by_cases hi : i = m
  · subst hi
    rw [List.getElem?_set_self (by rw [esF_len]; exact h)]
    simp [esF, h]
  · rw [List.getElem?_set_ne (Ne.symm hi)]
    by_cases h2 : i < 136
    · simp only [esF, List.getElem?_map, List.getElem?_range h2, Option.map_some]
      congr 1
      by_cases h3 : i < m
      · rw [if_pos h3, if_pos (by omega)]
      · rw [if_neg h3, if_neg (by omega)]
    · rw [List.getElem?_eq_none (by rw [esF_len]; omega), List.getElem?_eq_none (by rw [esF_len]; omega)]
theorem esF_congr {f g : Nat → Int} {m : Nat} (h : ∀ e, e < m → f e = g e) : esF f m = esF g m := by
  unfold esF
  apply List.map_congr_left
  intro e _
  by_cases he : e < m
  · rw [if_pos he, if_pos he, h e he]
  · rw [if_neg he, if_neg he]
theorem esF_e (f : Nat → Int) (m : Nat) (n k : Int) (i : Nat) (hi : i < 136) : (⟨n, k, esF f m⟩ : Col).e i = if i < m then f i else 0 := by
  simp [Col.e, esF, hi]
def colF (n k : Int) (f : Nat → Int) : Col := ⟨n, k, esF f (edgesOf n).toNat⟩
theorem esF_byte {f : Nat → Int} {m : Nat} (h : ∀ e, e < m → 0 ≤ f e ∧ f e < 256) : ∀ x ∈ esF f m, 0 ≤ x ∧ x < 256 := by
  intro x hx
  obtain ⟨e, _, rfl⟩ := List.mem_map.1 hx
  by_cases he : e < m
  · simp only [he, if_true]; exact h e he
  · simp only [he, if_false]; omega
theorem colF_ok {n k : Int} {f : Nat → Int} (hn : I64 n) (hk : I64 k) (h : ∀ e, e < (edgesOf n).toNat → 0 ≤ f e ∧ f e < 256) : (colF n k f).Ok :=
  ⟨esF_len _ _, esF_byte h, hn.1, hn.2, hk.1, hk.2⟩
theorem colF_congr {n k : Int} {f g : Nat → Int} (h : ∀ e, e < (edgesOf n).toNat → f e = g e) : colF n k f = colF n k g := by unfold colF; rw [esF_congr h]
/-- A colouring being made: in block b. -/
abbrev BlkC (w : World) (b : Nat) (c : Col) : Prop := Blk w b c.cells tC
/-- An edge of a colouring in an own block is given a colour. -/
theorem put_e {w : World} {b : Nat} {n k x : Int} {es : List Int} {ik : IntKind} {i : Int} {K : World → Prop} (h : BlkC w b ⟨n, k, es⟩) (hl : es.length = 136) (h0 : 0 ≤ i) (h1 : i < 136)
    (hK : ∀ w', Mod [b] w w' → w'.heap.size = w.heap.size → BlkC w' b ⟨n, k, es.set i.toNat x⟩ → K w') :
    QAll Tryd.prog (Instr.indexAt tA (ptr b 2) (.int ik i)) .any fun p => PrU Tryd.prog (Instr.storeAt tB p (.int .u8 x)) w K := by
  refine ixRp yR h0 h1 (st yB h (by simp [Col.cells, hl]; omega) rfl fun w' m hs hb => hK w' m hs ?_)
  have : (⟨n, k, es⟩ : Col).cells.set (2 + i.toNat) (.int .u8 x) = (⟨n, k, es.set i.toNat x⟩ : Col).cells := by
    simp [Col.cells, Nat.add_comm 2, List.map_set]
  rw [this] at hb
  exact hb
theorem int_u8 {n : Int} {K : Int → Prop} (h0 : 0 ≤ n) (h1 : n < 256) (hK : K n) : QAll Tryd.prog (convert tI tB (.int .i64 n)) (.int .u8) K :=
  cvt (by rw [Tryd.underlyingTI]; rfl) Tryd.underlyingTB (by rwa [wrap_u8 h0 h1])
/-- A slice of an array: its first n places. -/
theorem slR {w : World} {p : Value} {vs : List Value} {ik : IntKind} {n : Int} {K : Value → Prop} (hp : Row w p vs) (hl : vs.length = 136) (h0 : 0 ≤ n) (h1 : n ≤ 136)
    (hK : ∀ v, (∀ w', Row w' p vs → Sl w' v 1 (vs.take n.toNat)) → K v) : QAll Tryd.prog (Instr.sliceAt tA p none (some (.int ik n)) none) .any K := by
  obtain ⟨a, rfl⟩ := hp.isPtr
  refine ⟨.slice (some a) n.toNat 136, fun w' => ?_, hK _ fun w' hr => ⟨some a, n.toNat, 136, rfl, by omega, by simp [hl]; omega, fun _ => ?_⟩⟩
  · have hs : (Tryd.prog.info? tB).map (·.size) = some 1 := yB.size
    have hle : n.toNat ≤ 136 := by omega
    unfold Instr.sliceAt
    simp [run_underlying Tryd.underlyingTA, Instr.sureAddr, Instr.sliceBounds, Instr.sliceBound, asIntOf, sizeOf_run hs, h0, h1]
    rfl
  · obtain ⟨b, off, cs, e, fz, hp, ha, hg⟩ := hr
    exact ⟨b, off, cs, e, fz, hp, ha, fun i hi => by
      simp only [List.length_take] at hi
      rw [hg i (by omega), List.getElem?_take_of_lt (by omega)]⟩
end Go.Proofs.YtmecbbanklffgaaDoor

/- What ReflectPart, ColourOf and CountEdges answer. No condition. -/
namespace Go.Proofs.YtmecbbanklffgaaDoor
open Go Go.RowKit Eng Mem
set_option maxRecDepth 100000
def reflOf (k : Int) (l : List Int) : List Int × Int := if IsPart k l then (l.reverse, 0) else ([], 2)
def colourOf (c : Col) (i j : Int) : Int × Int := if c.Is then (if (0 ≤ i ∧ i ≤ c.n - 1) ∧ (0 ≤ j ∧ j ≤ c.n - 1) ∧ i ≠ j then (c.e (num i j).toNat, 0) else (0, 2)) else (0, 1)
/-- How many of the first m edges have each colour. -/
def cntE (c : Col) (m : Nat) : List Int := (List.range c.k.toNat).map fun q : Nat => (((List.range m).countP fun e => c.e e == (q : Int) : Nat) : Int)
theorem cntE_len (c : Col) (m : Nat) : (cntE c m).length = c.k.toNat := by simp [cntE]
theorem cntE_0 (c : Col) : cntE c 0 = List.replicate c.k.toNat 0 := by
  apply List.ext_getElem
  · simp [cntE]
  · intro i h1 h2; rw [List.getElem_replicate]; simp [cntE]
theorem cntE_get (c : Col) (m q : Nat) (hq : q < c.k.toNat) : (cntE c m).getD q 0 = (((List.range m).countP fun e => c.e e == (q : Int) : Nat) : Int) := by
  simp [cntE, List.getD, hq]
theorem cntE_set (c : Col) (m q : Nat) (hq : c.e m = q) (hk : q < c.k.toNat) : (cntE c m).set q ((cntE c m).getD q 0 + 1) = cntE c (m + 1) := by
  apply List.ext_getElem?
  intro i
  by_cases hi : q = i
  · subst hi
    rw [List.getElem?_set_self (by rw [cntE_len]; exact hk), cntE_get c m q hk]
    simp only [cntE, List.getElem?_map, List.getElem?_range hk, Option.map_some, List.range_succ, List.countP_append]
    simp [hq]
  · rw [List.getElem?_set_ne hi]
    by_cases h2 : i < c.k.toNat
    · simp only [cntE, List.getElem?_map, List.getElem?_range h2, Option.map_some, List.range_succ, List.countP_append]
      have : (c.e m == (i : Int)) = false := by rw [hq]; simp; omega
      simp [this]
    · rw [List.getElem?_eq_none (by rw [cntE_len]; omega), List.getElem?_eq_none (by rw [cntE_len]; omega)]
theorem cntE_bd (c : Col) (m q : Nat) (hq : q < c.k.toNat) : 0 ≤ (cntE c m).getD q 0 ∧ (cntE c m).getD q 0 ≤ m := by
  rw [cntE_get c m q hq]
  have := List.countP_le_length (p := fun e => c.e e == (q : Int)) (l := List.range m)
  simp at this
  omega
def countE (c : Col) : List Int × Int := if c.Is then (cntE c (edgesOf c.n).toNat, 0) else ([], 1)
theorem Col.Is.lt {c : Col} (h : c.Is) {i : Nat} (hi : (i : Int) < edgesOf c.n) : c.e i < c.k := by
  have hb := edges_bd (n := c.n) (by have := h.1; omega) h.2.1
  have := h.2.2.2.2 i (by omega)
  rwa [if_pos hi] at this
end Go.Proofs.YtmecbbanklffgaaDoor

/- The reading of impl_Colouring_edges, and its contract. No condition. -/
namespace Go.Proofs.YtmecbbanklffgaaDoor
open Go Go.RowKit Eng Mem
set_option linter.unusedVariables false
set_option maxRecDepth 100000
def V_impl_Colouring_edges (x0 : Value) (w : World) (K : Int → World → Prop) : Prop :=
  (∀ w_1, Drew w w_1 → (NilOk x0 ∧ (QAll Tryd.prog (Instr.fieldAt 24 x0 0) .any fun (x5_2 : Value) => (QSub Tryd.prog (Instr.loadAt 2 x5_2) w_1 (.int .i64) fun (x6_3 : Int) => (NilOk x0 ∧ (QAll Tryd.prog (Instr.fieldAt 24 x0 0) .any fun (x9_4 : Value) => (QSub Tryd.prog (Instr.loadAt 2 x9_4) w_1 (.int .i64) fun (x10_5 : Int) => ((2 : Int) ≠ 0 ∧ K (IntKind.i64.wrap (Int.tdiv (IntKind.i64.wrap (x6_3 * (IntKind.i64.wrap (x10_5 - (1 : Int))))) (2 : Int))) w_1))))))))

theorem eq_impl_Colouring_edges (x0 : Value) (w : World) (K : Int → World → Prop) :
    W Tryd.prog ty (fun _ _ _ _ => False) (bodyOf Tryd.f24) (fnPost Tryd.prog Tryd.f24.results.toList (.one (.int .i64)) K) (frame0 [x0] 14) w = V_impl_Colouring_edges x0 w K := by
  kernel_rfl

theorem body_impl_Colouring_edges : Tryd.f24.body = some (bodyOf Tryd.f24) := by kernel_rfl
theorem name_impl_Colouring_edges : (Tryd.f24.name == "runtime.NumGoroutine") = false := by kernel_rfl

theorem walk_impl_Colouring_edges (x0 : Value) {w : World} {K : Int → World → Prop} (h : V_impl_Colouring_edges x0 w K) : Fc Tryd.prog 24 #[x0] w (.one (.int .i64)) K :=
  fn_ok follows (sound_none _) Tryd.func24 name_impl_Colouring_edges body_impl_Colouring_edges Tryd.ntmps24 [x0] (Eq.mpr (eq_impl_Colouring_edges x0 w K) h)

-- uses S1Col
theorem c_impl_Colouring_edges {p : Value} {c : Col} {w : World} {K : Int → World → Prop} (h0 : 0 ≤ c.n) (h1 : c.n ≤ 17) (hx : ColAt w p c) (hK : ∀ w', Below w.heap.size w w' → K (edgesOf c.n) w') :
    Fc Tryd.prog F_impl_Colouring_edges #[p] w (.one (.int .i64)) K := by
  refine walk_impl_Colouring_edges p ?_
  intro w1 hd
  have hx1 := hx.keep (hd.below _)
  refine ⟨hx1.nonnil, col_n hx1 ⟨hx1.nonnil, col_n hx1 ⟨by decide, ?_⟩⟩⟩
  rw [wedges h0 h1]
  exact hK w1 (hd.below _)

end Go.Proofs.YtmecbbanklffgaaDoor

/- The reading of impl_in, and its contract. No condition. -/
namespace Go.Proofs.YtmecbbanklffgaaDoor
open Go Go.RowKit Eng Mem
set_option linter.unusedVariables false
set_option maxRecDepth 100000
def V_impl_in (n0 : Int) (low1 : Int) (high2 : Int) (w : World) (K : Bool → World → Prop) : Prop :=
  (((decide (n0 ≥ low1)) = true → K (decide (n0 ≤ high2)) w) ∧ ((decide (n0 ≥ low1)) = false → K false w))

theorem eq_impl_in (n0 : Int) (low1 : Int) (high2 : Int) (w : World) (K : Bool → World → Prop) :
    W Tryd.prog ty (fun _ _ _ _ => False) (bodyOf Tryd.f23) (fnPost Tryd.prog Tryd.f23.results.toList (.one .bool) K) (frame0 [(.int .i64 n0), (.int .i64 low1), (.int .i64 high2)] 15) w = V_impl_in n0 low1 high2 w K := by
  kernel_rfl

theorem body_impl_in : Tryd.f23.body = some (bodyOf Tryd.f23) := by kernel_rfl
theorem name_impl_in : (Tryd.f23.name == "runtime.NumGoroutine") = false := by kernel_rfl

theorem walk_impl_in (n0 : Int) (low1 : Int) (high2 : Int) {w : World} {K : Bool → World → Prop} (h : V_impl_in n0 low1 high2 w K) : Fc Tryd.prog 23 #[(.int .i64 n0), (.int .i64 low1), (.int .i64 high2)] w (.one .bool) K :=
  fn_ok follows (sound_none _) Tryd.func23 name_impl_in body_impl_in Tryd.ntmps23 [(.int .i64 n0), (.int .i64 low1), (.int .i64 high2)] (Eq.mpr (eq_impl_in n0 low1 high2 w K) h)

theorem c_impl_in (n lo hi : Int) {w : World} {K : Bool → World → Prop} (hK : K (decide (lo ≤ n ∧ n ≤ hi)) w) : Fc Tryd.prog F_impl_in #[.int .i64 n, .int .i64 lo, .int .i64 hi] w (.one .bool) K := by
  refine walk_impl_in n lo hi ⟨fun h => ?_, fun h => ?_⟩
  · have h := of_decide_eq_true h
    simpa [h] using hK
  · have h := of_decide_eq_false h
    have : ¬ lo ≤ n := h
    simpa [this] using hK

end Go.Proofs.YtmecbbanklffgaaDoor

/- The reading of impl_Colouring_isColouring, and its contract. No condition. -/
namespace Go.Proofs.YtmecbbanklffgaaDoor
open Go Go.RowKit Eng Mem
set_option linter.unusedVariables false
set_option maxRecDepth 100000
def B_impl_Colouring_isColouring_4 (x0 : Value) (x22 : Value) (x23 : Int) (N : (Value × Value) → Int → World → Prop) (D0 : (Unit) → World → Prop) (R : (Bool × Unit) → World → Prop) (w : World) : Prop :=
  (((decide (x23 < (136 : Int))) = true → (QAll Tryd.prog (Instr.index 22 x22 (.int .i64 x23)) (.int .u8) fun (x26_11 : Int) => (QAll Tryd.prog (convert 5 2 (.int .u8 x26_11)) (.int .i64) fun (x28_12 : Int) => (NilOk x0 ∧ (QAll Tryd.prog (Instr.fieldAt 24 x0 1) .any fun (x31_13 : Value) => (QSub Tryd.prog (Instr.loadAt 2 x31_13) w (.int .i64) fun (x32_14 : Int) => (((decide (x28_12 ≥ x32_14)) = true → R (false, ()) w) ∧ ((decide (x28_12 ≥ x32_14)) = false → (Fc Tryd.prog 24 #[x0] w (.one (.int .i64)) fun (x37_16 : Int) w_15 => (((decide (x23 ≥ x37_16)) = true → (((x26_11 != (0 : Int)) = true → R (false, ()) w_15) ∧ ((x26_11 != (0 : Int)) = false → N ((x0 : Value), (x22 : Value)) (IntKind.i64.wrap (x23 + (1 : Int))) w_15))) ∧ ((decide (x23 ≥ x37_16)) = false → N ((x0 : Value), (x22 : Value)) (IntKind.i64.wrap (x23 + (1 : Int))) w_15))))))))))) ∧ ((decide (x23 < (136 : Int))) = false → D0 () w))

abbrev L_impl_Colouring_isColouring_4_e0 : List Slot := [.junk, .junk, .junk, .junk, .junk, .junk, .junk, .junk, .junk, .junk, .junk, .junk, .junk, .junk, .junk, .junk, .junk, .junk, .junk, .junk, .junk, .junk, .junk, .junk, .junk, .junk, .junk, .junk, .junk, .junk, .junk, .junk, .junk, .junk, .junk, .junk, .junk, .junk, .junk, .junk, .junk, .junk, .junk, .junk, .junk]

abbrev L_impl_Colouring_isColouring_4_sp : List Slot := [.k .any, .junk, .junk, .junk, .junk, .junk, .junk, .junk, .junk, .junk, .junk, .junk, .junk, .junk, .junk, .junk, .junk, .junk, .junk, .junk, .junk, .junk, .k .any, .k (.int .i64), .junk, .junk, .junk, .junk, .junk, .junk, .junk, .junk, .junk, .junk, .junk, .junk, .junk, .junk, .junk, .junk, .junk, .junk, .junk, .junk, .junk]
abbrev L_impl_Colouring_isColouring_4_ex : List (Nat × List Slot) := [(0, L_impl_Colouring_isColouring_4_e0)]
abbrev L_impl_Colouring_isColouring_4_rt : List Slot := [.junk, .junk, .k .bool, .junk, .junk, .junk, .junk, .junk, .junk, .junk, .junk, .junk, .junk, .junk, .junk, .junk, .junk, .junk, .junk, .junk, .junk, .junk, .junk, .junk, .junk, .junk, .junk, .junk, .junk, .junk, .junk, .junk, .junk, .junk, .junk, .junk, .junk, .junk, .junk, .junk, .junk, .junk, .junk, .junk, .junk]

def L_impl_Colouring_isColouring_4_b (Φ : Post) (u : (Value × Value)) (N : (Value × Value) → Int → World → Prop) (s : Int) (w : World) : Prop :=
  B_impl_Colouring_isColouring_4 u.1 u.2 s N (fun v w => ∀ j : Nat → Value, Φ (.exit 0) (mkT j 0 L_impl_Colouring_isColouring_4_e0 v) w) (fun v w => ∀ j : Nat → Value, Φ .ret (mkT j 0 L_impl_Colouring_isColouring_4_rt v) w) w

theorem L_impl_Colouring_isColouring_4_eq (j : Nat → Value) (u : (Value × Value)) (s : Int) (N : (Value × Value) → Int → World → Prop) (D0 : (Unit) → World → Prop) (R : (Bool × Unit) → World → Prop) (w : World) :
    W Tryd.prog ty (fun _ _ _ _ => False) (loopAt Tryd.f12 4) (loopPost L_impl_Colouring_isColouring_4_sp [(0, (⟨L_impl_Colouring_isColouring_4_e0, D0⟩ : Door))] ⟨L_impl_Colouring_isColouring_4_rt, R⟩ (fun v w => N ((fun v => (v.1, v.2.1)) v) ((fun v => v.2.2.1) v) w)) (mkT j 0 L_impl_Colouring_isColouring_4_sp ((fun u s => (u.1, u.2, s, ())) u s)) w =
    B_impl_Colouring_isColouring_4 u.1 u.2 s N D0 R w := by
  kernel_rfl

def O_impl_Colouring_isColouring_1 : Code → Post → List SV → World → Prop :=
  orc 4 (loopAt Tryd.f12 4) L_impl_Colouring_isColouring_4_sp (fun Φ fr w => LOOP (U := (Value × Value)) (S := Int) ((fun v => (v.1, v.2.1)) (extT L_impl_Colouring_isColouring_4_sp fr)) (L_impl_Colouring_isColouring_4_b Φ ((fun v => (v.1, v.2.1)) (extT L_impl_Colouring_isColouring_4_sp fr))) ((fun v => v.2.2.1) (extT L_impl_Colouring_isColouring_4_sp fr)) w) (fun _ _ _ _ => False)

theorem O_impl_Colouring_isColouring_1_ok : Sound Tryd.prog O_impl_Colouring_isColouring_1 :=
  orc_ok (sound_none _) fun Φ fr w hs h => loop_ok (ty := ty) follows (sound_none _) L_impl_Colouring_isColouring_4_sp (fun v => (v.1, v.2.1)) (fun v => v.2.2.1) (fun u s => (u.1, u.2, s, ())) (fun _ => rfl) L_impl_Colouring_isColouring_4_ex L_impl_Colouring_isColouring_4_rt (body := L_impl_Colouring_isColouring_4_b Φ) (fun j u s w N hb => by
    have e := L_impl_Colouring_isColouring_4_eq j u s N (doorOf Φ (.exit 0) L_impl_Colouring_isColouring_4_e0).D (doorOf Φ .ret L_impl_Colouring_isColouring_4_rt).D w
    exact Eq.mpr e hb) hs h

def V_impl_Colouring_isColouring (x0 : Value) (w : World) (K : Bool → World → Prop) : Prop :=
  (NilOk x0 ∧ (QAll Tryd.prog (Instr.fieldAt 24 x0 0) .any fun (x7_1 : Value) => (QSub Tryd.prog (Instr.loadAt 2 x7_1) w (.int .i64) fun (x8_2 : Int) => (Fc Tryd.prog 23 #[(.int .i64 x8_2), (.int .i64 (1 : Int)), (.int .i64 (17 : Int))] w (.one .bool) fun (x9_4 : Bool) w_3 => (((!x9_4) = true → K false w_3) ∧ ((!x9_4) = false → (NilOk x0 ∧ (QAll Tryd.prog (Instr.fieldAt 24 x0 1) .any fun (x14_5 : Value) => (QSub Tryd.prog (Instr.loadAt 2 x14_5) w_3 (.int .i64) fun (x15_6 : Int) => (Fc Tryd.prog 23 #[(.int .i64 x15_6), (.int .i64 (1 : Int)), (.int .i64 (4 : Int))] w_3 (.one .bool) fun (x16_8 : Bool) w_7 => (((!x16_8) = true → K false w_7) ∧ ((!x16_8) = false → (NilOk x0 ∧ (QAll Tryd.prog (Instr.fieldAt 24 x0 2) .any fun (x21_9 : Value) => (QSub Tryd.prog (Instr.loadAt 22 x21_9) w_7 .any fun (x22_10 : Value) => (At (loopAt Tryd.f12 4) (loopAt Tryd.f12 4) (LOOP (U := (Value × Value)) (S := Int) ((x0 : Value), (x22_10 : Value)) (fun N_23 s_24 w_25 => B_impl_Colouring_isColouring_4 (x0 : Value) (x22_10 : Value) s_24 N_23 (fun (v_17 : (Unit)) w_18 => ∀ _j_19 : Nat → Value, K true w_18) (fun (v_20 : (Bool × Unit)) w_21 => ∀ _j_22 : Nat → Value, K v_20.1 w_21) w_25) (0 : Int) w_7)))))))))))))))))

theorem eq_impl_Colouring_isColouring (x0 : Value) (w : World) (K : Bool → World → Prop) :
    W Tryd.prog ty O_impl_Colouring_isColouring_1 (bodyOf Tryd.f12) (fnPost Tryd.prog Tryd.f12.results.toList (.one .bool) K) (frame0 [x0] 45) w = V_impl_Colouring_isColouring x0 w K := by
  kernel_rfl

theorem body_impl_Colouring_isColouring : Tryd.f12.body = some (bodyOf Tryd.f12) := by kernel_rfl
theorem name_impl_Colouring_isColouring : (Tryd.f12.name == "runtime.NumGoroutine") = false := by kernel_rfl

theorem walk_impl_Colouring_isColouring (x0 : Value) {w : World} {K : Bool → World → Prop} (h : V_impl_Colouring_isColouring x0 w K) : Fc Tryd.prog 12 #[x0] w (.one .bool) K :=
  fn_ok follows O_impl_Colouring_isColouring_1_ok Tryd.func12 name_impl_Colouring_isColouring body_impl_Colouring_isColouring Tryd.ntmps12 [x0] (Eq.mpr (eq_impl_Colouring_isColouring x0 w K) h)

-- uses S1Col
theorem c_impl_Colouring_isColouring {p : Value} {c : Col} {w : World} {K : Bool → World → Prop} (h : c.Ok) (hx : ColAt w p c) (hK : ∀ w', Below w.heap.size w w' → K (decide c.Is) w') :
    Fc Tryd.prog F_impl_Colouring_isColouring #[p] w (.one .bool) K := by
  have no : ∀ w', Below w.heap.size w w' → ¬ c.Is → K false w' := fun w' hb hn => by rw [← Col.is_false hn]; exact hK w' hb
  refine walk_impl_Colouring_isColouring p ?_
  refine ⟨hx.nonnil, col_n hx (c_impl_in _ _ _ ⟨fun h1 => ?_, fun h1 => ?_⟩)⟩
  · exact no w (Below.refl _ _) fun hi => by simp [hi.1, hi.2.1] at h1
  have h1 : 1 ≤ c.n ∧ c.n ≤ 17 := by simpa using h1
  refine ⟨hx.nonnil, col_k hx (c_impl_in _ _ _ ⟨fun h2 => ?_, fun h2 => ?_⟩)⟩
  · exact no w (Below.refl _ _) fun hi => by simp [hi.2.2.1, hi.2.2.2.1] at h2
  have h2 : 1 ≤ c.k ∧ c.k ≤ 4 := by simpa using h2
  refine ⟨hx.nonnil, fld f2 hx.nonnil hx.isPtr (ldA yA h.es_len (Col.es_row hx) ?_)⟩
  refine ⟨rfl, ⟨⟨fun i w' => 0 ≤ i ∧ i ≤ 136 ∧ Below w.heap.size w w' ∧ ∀ j : Nat, (j : Int) < i → c.at_ j, fun i _ => (136 - i).toNat, ⟨by omega, by omega, Below.refl _ _, fun j hj => by omega⟩, ?_⟩⟩⟩
  rintro i w' ⟨h0, hi, hb, hall⟩
  have hx' := hx.keep hb
  unfold B_impl_Colouring_isColouring_4
  refine ⟨fun hlt => ?_, fun hge => ?_⟩
  · have hlt := of_decide_eq_true hlt
    have hbd := h.e_bd i.toNat
    have hit : ((i.toNat : Nat) : Int) = i := by omega
    have next : ∀ w'', Below w.heap.size w w'' → c.at_ i.toNat → (i + 1 = i + 1 ∧ (0 ≤ i + 1 ∧ i + 1 ≤ 136 ∧ Below w.heap.size w w'' ∧ ∀ j : Nat, (j : Int) < i + 1 → c.at_ j) ∧ (136 - (i + 1)).toNat < (136 - i).toNat) := fun w'' hb'' ha =>
      ⟨rfl, ⟨by omega, by omega, hb'', fun j hj => by
        by_cases hji : (j : Int) < i
        · exact hall j hji
        · have : j = i.toNat := by omega
          subst this; exact ha⟩, by omega⟩
    have fail : ∀ w'', Below w.heap.size w w'' → ¬ c.at_ i.toNat → K false w'' := fun w'' hb'' hn => no w'' hb'' fun hI => hn (hI.2.2.2.2 i.toNat (by omega))
    refine ixV Tryd.underlyingTA yB h0 hlt (Col.e_get h (by omega)) ?_
    refine u8_int hbd.1 hbd.2 ⟨hx'.nonnil, col_k hx' ⟨fun hc => ?_, fun hc => ?_⟩⟩
    · have hc := of_decide_eq_true hc
      refine fun _ => fail w' hb fun ha => ?_
      unfold Col.at_ at ha
      split at ha <;> omega
    have hc := of_decide_eq_false hc
    refine c_impl_Colouring_edges (by omega) h1.2 hx' fun w'' hb'' => ?_
    have hbb := hb.trans (hb''.mono hb.size)
    refine ⟨fun he => ⟨fun hz => ?_, fun hz => ?_⟩, fun he => ?_⟩
    · have he := of_decide_eq_true he
      refine fun _ => fail w'' hbb fun ha => ?_
      unfold Col.at_ at ha
      rw [if_neg (by omega)] at ha
      simp [ha] at hz
    · have he := of_decide_eq_true he
      rw [wrap_small (by omega) (by omega)]
      have := next w'' hbb (by unfold Col.at_; rw [if_neg (by omega)]; simpa using hz)
      exact ⟨rfl, this.2⟩
    · have he := of_decide_eq_false he
      rw [wrap_small (by omega) (by omega)]
      have := next w'' hbb (by unfold Col.at_; rw [if_pos (by omega)]; omega)
      exact ⟨rfl, this.2⟩
  · have hge := of_decide_eq_false hge
    intro _
    have : c.Is := ⟨h1.1, h1.2, h2.1, h2.2, fun j hj => hall j (by omega)⟩
    rw [← Col.is_true this]
    exact hK w' hb

end Go.Proofs.YtmecbbanklffgaaDoor

/- The reading of impl_number, and its contract. No condition. -/
namespace Go.Proofs.YtmecbbanklffgaaDoor
open Go Go.RowKit Eng Mem
set_option linter.unusedVariables false
set_option maxRecDepth 100000
def V_impl_number (i0 : Int) (j1 : Int) (w : World) (K : Int → World → Prop) : Prop :=
  (QAll Tryd.prog (Builtin.min_ #[2, 2] 2 #[(.int .i64 i0), (.int .i64 j1)]) (.int .i64) fun (x7_1 : Int) => (QAll Tryd.prog (Builtin.max_ #[2, 2] 2 #[(.int .i64 i0), (.int .i64 j1)]) (.int .i64) fun (x10_2 : Int) => ((2 : Int) ≠ 0 ∧ K (IntKind.i64.wrap ((IntKind.i64.wrap (Int.tdiv (IntKind.i64.wrap (x10_2 * (IntKind.i64.wrap (x10_2 - (1 : Int))))) (2 : Int))) + x7_1)) w)))

theorem eq_impl_number (i0 : Int) (j1 : Int) (w : World) (K : Int → World → Prop) :
    W Tryd.prog ty (fun _ _ _ _ => False) (bodyOf Tryd.f37) (fnPost Tryd.prog Tryd.f37.results.toList (.one (.int .i64)) K) (frame0 [(.int .i64 i0), (.int .i64 j1)] 18) w = V_impl_number i0 j1 w K := by
  kernel_rfl

theorem body_impl_number : Tryd.f37.body = some (bodyOf Tryd.f37) := by kernel_rfl
theorem name_impl_number : (Tryd.f37.name == "runtime.NumGoroutine") = false := by kernel_rfl

theorem walk_impl_number (i0 : Int) (j1 : Int) {w : World} {K : Int → World → Prop} (h : V_impl_number i0 j1 w K) : Fc Tryd.prog 37 #[(.int .i64 i0), (.int .i64 j1)] w (.one (.int .i64)) K :=
  fn_ok follows (sound_none _) Tryd.func37 name_impl_number body_impl_number Tryd.ntmps37 [(.int .i64 i0), (.int .i64 j1)] (Eq.mpr (eq_impl_number i0 j1 w K) h)

-- uses S5Made
theorem c_impl_number {i j : Int} {w : World} {K : Int → World → Prop} (h0 : 0 ≤ i) (h1 : i ≤ 17) (k0 : 0 ≤ j) (k1 : j ≤ 17) (hK : K (num i j) w) : Fc Tryd.prog F_impl_number #[.int .i64 i, .int .i64 j] w (.one (.int .i64)) K := by
  refine walk_impl_number _ _ (mn (mx ⟨by decide, ?_⟩))
  by_cases h : i < j
  · rw [if_pos (show j > i from h), if_neg (by omega), wnum h0 h1 k0 k1]
    rwa [num_of h] at hK
  · rw [if_neg (show ¬ j > i from h)]
    unfold num at hK
    rw [if_neg h] at hK
    by_cases h' : j < i
    · rw [if_pos h', wnum k0 k1 h0 h1]; exact hK
    · have : i = j := by omega
      subst this
      rw [if_neg h', wnum k0 k1 h0 h1]; exact hK

end Go.Proofs.YtmecbbanklffgaaDoor

/- The reading of impl_Colouring_at, and its contract. No condition. -/
namespace Go.Proofs.YtmecbbanklffgaaDoor
open Go Go.RowKit Eng Mem
set_option linter.unusedVariables false
set_option maxRecDepth 100000
def V_impl_Colouring_at (x0 : Value) (i1 : Int) (j2 : Int) (w : World) (K : Int → World → Prop) : Prop :=
  (∀ w_1, Drew w w_1 → (NilOk x0 ∧ (QAll Tryd.prog (Instr.fieldAt 24 x0 2) .any fun (x12_2 : Value) => (Fc Tryd.prog 37 #[(.int .i64 i1), (.int .i64 j2)] w_1 (.one (.int .i64)) fun (x10_4 : Int) w_3 => (Keeps w_1 w_3 ((QAll Tryd.prog (Instr.indexAt 22 x12_2 (.int .i64 x10_4)) .any fun (x13_5 : Value) => (QSub Tryd.prog (Instr.loadAt 5 x13_5) w_3 (.int .u8) fun (x14_6 : Int) => (QAll Tryd.prog (convert 5 2 (.int .u8 x14_6)) (.int .i64) fun (x15_7 : Int) => K x15_7 w_3)))))))))

theorem eq_impl_Colouring_at (x0 : Value) (i1 : Int) (j2 : Int) (w : World) (K : Int → World → Prop) :
    W Tryd.prog ty (fun _ _ _ _ => False) (bodyOf Tryd.f25) (fnPost Tryd.prog Tryd.f25.results.toList (.one (.int .i64)) K) (frame0 [x0, (.int .i64 i1), (.int .i64 j2)] 16) w = V_impl_Colouring_at x0 i1 j2 w K := by
  kernel_rfl

theorem body_impl_Colouring_at : Tryd.f25.body = some (bodyOf Tryd.f25) := by kernel_rfl
theorem name_impl_Colouring_at : (Tryd.f25.name == "runtime.NumGoroutine") = false := by kernel_rfl

theorem walk_impl_Colouring_at (x0 : Value) (i1 : Int) (j2 : Int) {w : World} {K : Int → World → Prop} (h : V_impl_Colouring_at x0 i1 j2 w K) : Fc Tryd.prog 25 #[x0, (.int .i64 i1), (.int .i64 j2)] w (.one (.int .i64)) K :=
  fn_ok follows (sound_none _) Tryd.func25 name_impl_Colouring_at body_impl_Colouring_at Tryd.ntmps25 [x0, (.int .i64 i1), (.int .i64 j2)] (Eq.mpr (eq_impl_Colouring_at x0 i1 j2 w K) h)

-- uses S5Made
theorem c_impl_Colouring_at {p : Value} {c : Col} {i j : Int} {w : World} {K : Int → World → Prop} (hc : c.Ok) (hx : ColAt w p c) (h0 : 0 ≤ i) (h1 : i < 17) (k0 : 0 ≤ j) (k1 : j < 17) (hne : i ≠ j) (hK : ∀ w', Below w.heap.size w w' → K (c.e (num i j).toNat) w') :
    Fc Tryd.prog F_impl_Colouring_at #[p, .int .i64 i, .int .i64 j] w (.one (.int .i64)) K := by
  refine walk_impl_Colouring_at _ _ _ ?_
  intro w1 hd
  have hb := hd.below w.heap.size
  have hx := hx.keep hb
  have hn := num_lt h0 h1 k0 k1 (Int.le_refl _) hne
  rw [show edgesOf 17 = 136 from by decide] at hn
  have hbd := hc.e_bd (num i j).toNat
  exact ⟨hx.nonnil, fld f2 hx.nonnil hx.isPtr (c_impl_number h0 (by omega) k0 (by omega) ⟨Below.refl _ _, es_e hc (Col.es_row hx) hn.1 hn.2 (u8_int hbd.1 hbd.2 (hK w1 hb))⟩)⟩

end Go.Proofs.YtmecbbanklffgaaDoor

/- The reading of impl_areSizes, and its contract. No condition. -/
namespace Go.Proofs.YtmecbbanklffgaaDoor
open Go Go.RowKit Eng Mem
set_option linter.unusedVariables false
set_option maxRecDepth 100000
def V_impl_areSizes (n0 : Int) (k1 : Int) (w : World) (K : Bool → World → Prop) : Prop :=
  (Fc Tryd.prog 23 #[(.int .i64 n0), (.int .i64 (1 : Int)), (.int .i64 (17 : Int))] w (.one .bool) fun (x6_2 : Bool) w_1 => ((x6_2 = true → (Fc Tryd.prog 23 #[(.int .i64 k1), (.int .i64 (1 : Int)), (.int .i64 (4 : Int))] w_1 (.one .bool) fun (x9_4 : Bool) w_3 => K x9_4 w_3)) ∧ (x6_2 = false → K false w_1)))

theorem eq_impl_areSizes (n0 : Int) (k1 : Int) (w : World) (K : Bool → World → Prop) :
    W Tryd.prog ty (fun _ _ _ _ => False) (bodyOf Tryd.f11) (fnPost Tryd.prog Tryd.f11.results.toList (.one .bool) K) (frame0 [(.int .i64 n0), (.int .i64 k1)] 11) w = V_impl_areSizes n0 k1 w K := by
  kernel_rfl

theorem body_impl_areSizes : Tryd.f11.body = some (bodyOf Tryd.f11) := by kernel_rfl
theorem name_impl_areSizes : (Tryd.f11.name == "runtime.NumGoroutine") = false := by kernel_rfl

theorem walk_impl_areSizes (n0 : Int) (k1 : Int) {w : World} {K : Bool → World → Prop} (h : V_impl_areSizes n0 k1 w K) : Fc Tryd.prog 11 #[(.int .i64 n0), (.int .i64 k1)] w (.one .bool) K :=
  fn_ok follows (sound_none _) Tryd.func11 name_impl_areSizes body_impl_areSizes Tryd.ntmps11 [(.int .i64 n0), (.int .i64 k1)] (Eq.mpr (eq_impl_areSizes n0 k1 w K) h)

-- uses S3Part
theorem c_impl_areSizes (n k : Int) {w : World} {K : Bool → World → Prop} (hK : K (decide (Sizes n k)) w) : Fc Tryd.prog F_impl_areSizes #[.int .i64 n, .int .i64 k] w (.one .bool) K := by
  refine walk_impl_areSizes _ _ (c_impl_in _ _ _ ⟨fun h => c_impl_in _ _ _ ?_, fun h => ?_⟩)
  · have h := dec_t h
    have : decide (Sizes n k) = decide (1 ≤ k ∧ k ≤ 4) := by simp [Sizes, h.1, h.2]
    rwa [this] at hK
  · have h := dec_f h
    rwa [decide_eq_false (fun hh => h ⟨hh.1, hh.2.1⟩)] at hK

end Go.Proofs.YtmecbbanklffgaaDoor

/- The reading of laws_eqByteA136, and its contract. No condition. -/
namespace Go.Proofs.YtmecbbanklffgaaDoor
open Go Go.RowKit Eng Mem
set_option linter.unusedVariables false
set_option maxRecDepth 100000
def B_laws_eqByteA136_2 (a2 : Value) (b3 : Value) (i5 : Int) (N : (Value × Value) → Int → World → Prop) (D0 : (Unit) → World → Prop) (R : (Bool × Unit) → World → Prop) (w : World) : Prop :=
  (((decide (i5 < (136 : Int))) = true → (∀ w_5, Drew w w_5 → (QAll Tryd.prog (Instr.indexAt 22 a2 (.int .i64 i5)) .any fun (x11_6 : Value) => (QSub Tryd.prog (Instr.loadAt 5 x11_6) w_5 (.int .u8) fun (x12_7 : Int) => (QAll Tryd.prog (Instr.indexAt 22 b3 (.int .i64 i5)) .any fun (x14_8 : Value) => (QSub Tryd.prog (Instr.loadAt 5 x14_8) w_5 (.int .u8) fun (x15_9 : Int) => (((x12_7 != x15_9) = true → R (false, ()) w_5) ∧ ((x12_7 != x15_9) = false → N ((a2 : Value), (b3 : Value)) (IntKind.i64.wrap (i5 + (1 : Int))) w_5)))))))) ∧ ((decide (i5 < (136 : Int))) = false → D0 () w))

abbrev L_laws_eqByteA136_2_e0 : List Slot := [.junk, .junk, .junk, .junk, .junk, .junk, .junk, .junk, .junk, .junk, .junk, .junk, .junk, .junk, .junk, .junk, .junk]

abbrev L_laws_eqByteA136_2_sp : List Slot := [.junk, .junk, .k .any, .k .any, .junk, .k (.int .i64), .junk, .junk, .junk, .junk, .junk, .junk, .junk, .junk, .junk, .junk, .junk]
abbrev L_laws_eqByteA136_2_ex : List (Nat × List Slot) := [(0, L_laws_eqByteA136_2_e0)]
abbrev L_laws_eqByteA136_2_rt : List Slot := [.junk, .junk, .junk, .junk, .k .bool, .junk, .junk, .junk, .junk, .junk, .junk, .junk, .junk, .junk, .junk, .junk, .junk]

def L_laws_eqByteA136_2_b (Φ : Post) (u : (Value × Value)) (N : (Value × Value) → Int → World → Prop) (s : Int) (w : World) : Prop :=
  B_laws_eqByteA136_2 u.1 u.2 s N (fun v w => ∀ j : Nat → Value, Φ (.exit 0) (mkT j 0 L_laws_eqByteA136_2_e0 v) w) (fun v w => ∀ j : Nat → Value, Φ .ret (mkT j 0 L_laws_eqByteA136_2_rt v) w) w

theorem L_laws_eqByteA136_2_eq (j : Nat → Value) (u : (Value × Value)) (s : Int) (N : (Value × Value) → Int → World → Prop) (D0 : (Unit) → World → Prop) (R : (Bool × Unit) → World → Prop) (w : World) :
    W Tryd.prog ty (fun _ _ _ _ => False) (loopAt Tryd.f14 2) (loopPost L_laws_eqByteA136_2_sp [(0, (⟨L_laws_eqByteA136_2_e0, D0⟩ : Door))] ⟨L_laws_eqByteA136_2_rt, R⟩ (fun v w => N ((fun v => (v.1, v.2.1)) v) ((fun v => v.2.2.1) v) w)) (mkT j 0 L_laws_eqByteA136_2_sp ((fun u s => (u.1, u.2, s, ())) u s)) w =
    B_laws_eqByteA136_2 u.1 u.2 s N D0 R w := by
  kernel_rfl

def O_laws_eqByteA136_1 : Code → Post → List SV → World → Prop :=
  orc 2 (loopAt Tryd.f14 2) L_laws_eqByteA136_2_sp (fun Φ fr w => LOOP (U := (Value × Value)) (S := Int) ((fun v => (v.1, v.2.1)) (extT L_laws_eqByteA136_2_sp fr)) (L_laws_eqByteA136_2_b Φ ((fun v => (v.1, v.2.1)) (extT L_laws_eqByteA136_2_sp fr))) ((fun v => v.2.2.1) (extT L_laws_eqByteA136_2_sp fr)) w) (fun _ _ _ _ => False)

theorem O_laws_eqByteA136_1_ok : Sound Tryd.prog O_laws_eqByteA136_1 :=
  orc_ok (sound_none _) fun Φ fr w hs h => loop_ok (ty := ty) follows (sound_none _) L_laws_eqByteA136_2_sp (fun v => (v.1, v.2.1)) (fun v => v.2.2.1) (fun u s => (u.1, u.2, s, ())) (fun _ => rfl) L_laws_eqByteA136_2_ex L_laws_eqByteA136_2_rt (body := L_laws_eqByteA136_2_b Φ) (fun j u s w N hb => by
    have e := L_laws_eqByteA136_2_eq j u s N (doorOf Φ (.exit 0) L_laws_eqByteA136_2_e0).D (doorOf Φ .ret L_laws_eqByteA136_2_rt).D w
    exact Eq.mpr e hb) hs h

def V_laws_eqByteA136 (a0 : Value) (b1 : Value) (w : World) (K : Bool → World → Prop) : Prop :=
  (Pr Tryd.prog (Instr.box 22 a0) w (.one .any) fun (a2_2 : Value) w_1 => (Pr Tryd.prog (Instr.box 22 b1) w_1 (.one .any) fun (b3_4 : Value) w_3 => (At (loopAt Tryd.f14 2) (loopAt Tryd.f14 2) (LOOP (U := (Value × Value)) (S := Int) ((a2_2 : Value), (b3_4 : Value)) (fun N_16 s_17 w_18 => B_laws_eqByteA136_2 (a2_2 : Value) (b3_4 : Value) s_17 N_16 (fun (v_10 : (Unit)) w_11 => ∀ _j_12 : Nat → Value, K true w_11) (fun (v_13 : (Bool × Unit)) w_14 => ∀ _j_15 : Nat → Value, K v_13.1 w_14) w_18) (0 : Int) w_3))))

theorem eq_laws_eqByteA136 (a0 : Value) (b1 : Value) (w : World) (K : Bool → World → Prop) :
    W Tryd.prog ty O_laws_eqByteA136_1 (bodyOf Tryd.f14) (fnPost Tryd.prog Tryd.f14.results.toList (.one .bool) K) (frame0 [a0, b1] 17) w = V_laws_eqByteA136 a0 b1 w K := by
  kernel_rfl

theorem body_laws_eqByteA136 : Tryd.f14.body = some (bodyOf Tryd.f14) := by kernel_rfl
theorem name_laws_eqByteA136 : (Tryd.f14.name == "runtime.NumGoroutine") = false := by kernel_rfl

theorem walk_laws_eqByteA136 (a0 : Value) (b1 : Value) {w : World} {K : Bool → World → Prop} (h : V_laws_eqByteA136 a0 b1 w K) : Fc Tryd.prog 14 #[a0, b1] w (.one .bool) K :=
  fn_ok follows O_laws_eqByteA136_1_ok Tryd.func14 name_laws_eqByteA136 body_laws_eqByteA136 Tryd.ntmps14 [a0, b1] (Eq.mpr (eq_laws_eqByteA136 a0 b1 w K) h)

-- uses S1Col
theorem c_laws_eqByteA136 {es fs : List Int} {w : World} {K : Bool → World → Prop} (h : es.length = 136) (k : fs.length = 136) (hK : ∀ w', Below w.heap.size w w' → K (decide (es = fs)) w') :
    Fc Tryd.prog F_laws_eqByteA136 #[.agg (es.map (Value.int .u8)).toArray, .agg (fs.map (Value.int .u8)).toArray] w (.one .bool) K := by
  refine walk_laws_eqByteA136 _ _ ?_
  refine box (es.map (Value.int .u8)) rfl fun b1 w1 n1 => box (fs.map (Value.int .u8)) rfl fun b2 w2 n2 => ?_
  have hb := n1.below.trans (n2.below.mono n1.below.size)
  have r1 : Row w2 (ptr b1 0) (es.map (Value.int .u8)) := (row_all n1.at_).keep n2.below
  have r2 : Row w2 (ptr b2 0) (fs.map (Value.int .u8)) := row_all n2.at_
  have hs := hb.size
  refine lp (fun i w' => 0 ≤ i ∧ i ≤ 136 ∧ Below w2.heap.size w2 w' ∧ ∀ j : Nat, (j : Int) < i → es.getD j 0 = fs.getD j 0) (fun i _ => (136 - i).toNat)
    ⟨by omega, by omega, Below.refl _ _, fun j hj => by omega⟩ ?_
  rintro i w3 N ⟨h0, hi, hb3, hall⟩ hN
  unfold B_laws_eqByteA136_2
  refine ⟨fun hlt w4 hd => ?_, fun hge => ?_⟩
  · have hlt := dec_t hlt
    have hb4 := hb3.trans (hd.below _)
    have q1 := r1.keep hb4; have q2 := r2.keep hb4
    refine ixR yR q1.isPtr h0 hlt (ld (k := .int .u8) (x := es.getD i.toNat 0) yB (by rw [Nat.mul_one]; exact q1.get _ (by simp [show i.toNat < es.length from by omega])) ?_)
    refine ixR yR q2.isPtr h0 hlt (ld (k := .int .u8) (x := fs.getD i.toNat 0) yB (by rw [Nat.mul_one]; exact q2.get _ (by simp [show i.toNat < fs.length from by omega])) ?_)
    refine ⟨fun hne _ => ?_, fun he => ?_⟩
    · have := hK w4 (hb.trans (hb4.mono hs))
      rwa [decide_eq_false (fun hh => ne_t hne (by rw [hh]))] at this
    · have he := ne_f he
      rw [wrap_small (by omega) (by omega)]
      refine hN _ _ ⟨by omega, by omega, hb4, fun j hj => ?_⟩ (by omega)
      by_cases hji : (j : Int) < i
      · exact hall j hji
      · have : j = i.toNat := by omega
        subst this; exact he
  · have hge := dec_f hge
    intro _
    have := hK w3 (hb.trans (hb3.mono hs))
    have e : es = fs := List.ext_getElem (by omega) fun j h1 h2 => by
      have := hall j (by omega)
      simpa [List.getD, h1, h2] using this
    rwa [decide_eq_true e] at this

end Go.Proofs.YtmecbbanklffgaaDoor

/- The reading of laws_eqColouring, and its contract. No condition. -/
namespace Go.Proofs.YtmecbbanklffgaaDoor
open Go Go.RowKit Eng Mem
set_option linter.unusedVariables false
set_option maxRecDepth 100000
def V_laws_eqColouring (a0 : Value) (b1 : Value) (w : World) (K : Bool → World → Prop) : Prop :=
  (Pr Tryd.prog (Instr.box 24 a0) w (.one .any) fun (a2_2 : Value) w_1 => (Pr Tryd.prog (Instr.box 24 b1) w_1 (.one .any) fun (b3_4 : Value) w_3 => (QAll Tryd.prog (Instr.fieldAt 24 a2_2 0) .any fun (x5_5 : Value) => (QSub Tryd.prog (Instr.loadAt 2 x5_5) w_3 (.int .i64) fun (x6_6 : Int) => (QAll Tryd.prog (Instr.fieldAt 24 b3_4 0) .any fun (x7_7 : Value) => (QSub Tryd.prog (Instr.loadAt 2 x7_7) w_3 (.int .i64) fun (x8_8 : Int) => (((x6_6 != x8_8) = true → K false w_3) ∧ ((x6_6 != x8_8) = false → (QAll Tryd.prog (Instr.fieldAt 24 a2_2 1) .any fun (x10_9 : Value) => (QSub Tryd.prog (Instr.loadAt 2 x10_9) w_3 (.int .i64) fun (x11_10 : Int) => (QAll Tryd.prog (Instr.fieldAt 24 b3_4 1) .any fun (x12_11 : Value) => (QSub Tryd.prog (Instr.loadAt 2 x12_11) w_3 (.int .i64) fun (x13_12 : Int) => (((x11_10 != x13_12) = true → K false w_3) ∧ ((x11_10 != x13_12) = false → (QAll Tryd.prog (Instr.fieldAt 24 a2_2 2) .any fun (x15_13 : Value) => (QSub Tryd.prog (Instr.loadAt 22 x15_13) w_3 .any fun (x16_14 : Value) => (QAll Tryd.prog (Instr.fieldAt 24 b3_4 2) .any fun (x17_15 : Value) => (QSub Tryd.prog (Instr.loadAt 22 x17_15) w_3 .any fun (x18_16 : Value) => (Fc Tryd.prog 14 #[x16_14, x18_16] w_3 (.one .bool) fun (x19_18 : Bool) w_17 => (((!x19_18) = true → K false w_17) ∧ ((!x19_18) = false → K true w_17)))))))))))))))))))))

theorem eq_laws_eqColouring (a0 : Value) (b1 : Value) (w : World) (K : Bool → World → Prop) :
    W Tryd.prog ty (fun _ _ _ _ => False) (bodyOf Tryd.f6) (fnPost Tryd.prog Tryd.f6.results.toList (.one .bool) K) (frame0 [a0, b1] 21) w = V_laws_eqColouring a0 b1 w K := by
  kernel_rfl

theorem body_laws_eqColouring : Tryd.f6.body = some (bodyOf Tryd.f6) := by kernel_rfl
theorem name_laws_eqColouring : (Tryd.f6.name == "runtime.NumGoroutine") = false := by kernel_rfl

theorem walk_laws_eqColouring (a0 : Value) (b1 : Value) {w : World} {K : Bool → World → Prop} (h : V_laws_eqColouring a0 b1 w K) : Fc Tryd.prog 6 #[a0, b1] w (.one .bool) K :=
  fn_ok follows (sound_none _) Tryd.func6 name_laws_eqColouring body_laws_eqColouring Tryd.ntmps6 [a0, b1] (Eq.mpr (eq_laws_eqColouring a0 b1 w K) h)

-- uses S1Col
theorem c_laws_eqColouring {c d : Col} {w : World} {K : Bool → World → Prop} (h : c.Ok) (k : d.Ok) (hK : ∀ w', Below w.heap.size w w' → K (decide (c = d)) w') :
    Fc Tryd.prog F_laws_eqColouring #[c.val, d.val] w (.one .bool) K := by
  refine walk_laws_eqColouring _ _ ?_
  refine col_box fun b1 w1 n1 x1 => col_box fun b2 w2 n2 x2 => ?_
  have hb := n1.below.trans (n2.below.mono n1.below.size)
  replace x1 := x1.keep n2.below
  have no : ∀ w', Below w.heap.size w w' → c ≠ d → K false w' := fun w' hb he => by have := hK w' hb; rwa [decide_eq_false he] at this
  refine fld f0 x1.nonnil x1.isPtr (ld (k := .int .i64) yI (x1.get 0 rfl) (fld f0 x2.nonnil x2.isPtr (ld (k := .int .i64) yI (x2.get 0 rfl) ⟨fun hn => no _ hb fun he => ne_t hn (by rw [he]), fun e0 => ?_⟩)))
  refine fld f1 x1.nonnil x1.isPtr (ld (k := .int .i64) yI (x1.get 1 rfl) (fld f1 x2.nonnil x2.isPtr (ld (k := .int .i64) yI (x2.get 1 rfl) ⟨fun hn => no _ hb fun he => ne_t hn (by rw [he]), fun e1 => ?_⟩)))
  refine fld f2 x1.nonnil x1.isPtr (ldA yA h.es_len (Col.es_row x1) (fld f2 x2.nonnil x2.isPtr (ldA yA k.es_len (Col.es_row x2) ?_)))
  refine c_laws_eqByteA136 h.len k.len fun w3 hb3 => ?_
  have hbb := hb.trans (hb3.mono hb.size)
  refine ⟨fun hn => no _ hbb fun he => notd_t hn (by rw [he]), fun e2 => ?_⟩
  have e2 := notd_f e2
  have := hK w3 hbb
  have e : c = d := by cases c; cases d; simp only [Col.mk.injEq]; exact ⟨ne_f e0, ne_f e1, e2⟩
  rwa [decide_eq_true e] at this

end Go.Proofs.YtmecbbanklffgaaDoor

/- A long body cut in parts, each of which is read by itself. No condition. -/
namespace Go.Proofs.YtmecbbanklffgaaDoor.Eng
open Go Go.RowKit
/-- What comes behind a body's cut. -/
def restOf (cut : Nat) : Code → Code
  | .seq _ y => bif firstId y == cut then y else restOf cut y
  | _ => .skip
/-- The reading up to the cut; J takes over there. -/
def WC (P : Program) (ty : List RT) (LW : Code → Post → List SV → World → Prop) (cut : Nat) (J : List SV → World → Prop) : Code → Post → List SV → World → Prop
  | .seq x y, Φ, fr, w => bif firstId y == cut then W P ty LW x (thenW J Φ) fr w else W P ty LW x (thenW (WC P ty LW cut J y Φ) Φ) fr w
  | _, _, _, _ => False
theorem WC_ok {P : Program} {ty : List RT} {LW : Code → Post → List SV → World → Prop} (hm : P.follows .mixedOrders = true) (hL : Sound P LW) {cut : Nat} {J : List SV → World → Prop} {Φ : Post} :
    ∀ (c : Code) (fr : List SV) (w : World), (∀ fr w, J fr w → (restOf cut c).wp P (up Φ) (act fr) w) → WC P ty LW cut J c Φ fr w → c.wp P (up Φ) (act fr) w
  | .seq x y, fr, w, hJ, h => by
    simp only [WC] at h
    simp only [restOf] at hJ
    cases hb : (firstId y == cut) with
    | true =>
      rw [hb] at h hJ
      simp only [cond_true] at h hJ
      refine wp_seq (wp_mono (W_ok hm hL x _ fr w h) ?_)
      rintro e a w' ⟨fr', rfl, h'⟩
      cases e <;> first | exact hJ fr' w' h' | exact ⟨fr', rfl, h'⟩
    | false =>
      rw [hb] at h hJ
      simp only [cond_false] at h hJ
      refine wp_seq (wp_mono (W_ok hm hL x _ fr w h) ?_)
      rintro e a w' ⟨fr', rfl, h'⟩
      cases e <;> first | exact WC_ok hm hL y fr' w' hJ h' | exact ⟨fr', rfl, h'⟩
  | .skip, _, _, _, h => h.elim
  | .label _, _, _, _, h => h.elim
  | .exit _, _, _, _, h => h.elim
  | .ret, _, _, _, h => h.elim
  | .cond .., _, _, _, h => h.elim
  | .block .., _, _, _, h => h.elim
  | .region .., _, _, _, h => h.elim
  | .loop _, _, _, _, h => h.elim
  | .rangeFunc .., _, _, _, h => h.elim
  | .goto _, _, _, _, h => h.elim
  | .scope _, _, _, _, h => h.elim
  | .refuse _, _, _, _, h => h.elim
/-! ### Regions in which loads keep their places -/
def pickE (ty : List RT) (ops : Array Oper) (listed : Array Bool) (fr : List SV) : List Nat → Option Nat
  | [] => none
  | i :: r => match ops[i]? with
    | some o => bif (((quietOp ty o && !loadOp o) || (match wantedW ops o fr with | some false => true | _ => false)) && Region.free .any ops listed i) then some i else pickE ty ops listed fr r
    | none => pickE ty ops listed fr r
theorem pickE_ok {ty : List RT} {ops : Array Oper} {listed : Array Bool} {fr : List SV} {i : Nat} : ∀ {l : List Nat}, pickE ty ops listed fr l = some i → i ∈ l ∧ Region.free .any ops listed i = true
  | [], h => by cases h
  | k :: r, h => by
    unfold pickE at h
    split at h
    · rename_i o ho
      generalize hb : ((_ || _) && _) = b at h
      cases b with
      | true =>
        have : k = i := Option.some.inj h
        subst this
        exact ⟨List.mem_cons_self, by simp at hb; exact hb.2⟩
      | false => exact ⟨List.mem_cons_of_mem _ (pickE_ok h).1, (pickE_ok h).2⟩
    · exact ⟨List.mem_cons_of_mem _ (pickE_ok h).1, (pickE_ok h).2⟩
/-- As WD, but those that look into memory are taken in every order, like those that act. -/
def WE (P : Program) (ty : List RT) (ops : Array Oper) (K : List SV → World → Prop) : Nat → Array Bool → List SV → World → Prop
  | 0, listed, fr, w => bif (Region.ready .any ops listed).isEmpty then K fr w else False
  | n + 1, listed, fr, w =>
    match Region.ready .any ops listed with
    | [] => K fr w
    | i0 :: r => match pickE ty ops listed fr (i0 :: r) with
      | some i => match ops[i]? with
        | some o => match wantedW ops o fr with
          | some true => bif quietOp ty o && !loadOp o then opQ P ty o fr w fun v => splitFr (guardSrc ops i) o.dst (putS fr o.dst v) fun fr' => WE P ty ops K n (listed.setIfInBounds i true) fr' w else False
          | some false => WE P ty ops K n (listed.setIfInBounds i true) (putS fr o.dst (.val undef)) w
          | none => False
        | none => False
      | none => allD (fun i => match ops[i]? with
        | some o => match wantedW ops o fr with
          | some true => opL P ty o fr w fun fr' w' => splitFr (guardSrc ops i) o.dst fr' fun fr'' => WE P ty ops K n (listed.setIfInBounds i true) fr'' w'
          | _ => False
        | none => False) (i0 :: r)
theorem WE_ok {P : Program} {ty : List RT} {ops : Array Oper} {K : List SV → World → Prop} {Q : Exit → Act → World → Prop} (hs : Region.noSelect ops = true)
    (hK : ∀ fr w, K fr w → Q .normal (act fr) w) (hQ : ∀ c d v a w, Q (.panic c) (a.put d v) w → Q (.panic c) a w) :
    ∀ (n : Nat) (listed : Array Bool) (fr : List SV) (w : World), WE P ty ops K n listed fr w → wpAny P .any ops Q n listed (act fr) w := by
  intro n
  induction n with
  | zero =>
    intro listed fr w h
    unfold WE at h
    cases hr : (Region.ready .any ops listed).isEmpty with
    | true => rw [hr] at h; exact ⟨by simpa using hr, hK _ _ h⟩
    | false => rw [hr] at h; exact h.elim
  | succ n ih =>
    intro listed fr w h
    unfold WE at h
    split at h
    · rename_i hr
      exact ⟨fun _ => hK _ _ h, by rw [hr]; intro i hi; cases hi⟩
    · rename_i i0 r hr
      split at h
      · rename_i i hp
        obtain ⟨him, hfree⟩ := pickE_ok hp
        rw [← hr] at him
        split at h
        · rename_i o ho
          have hfr := Region.free_spec ho hfree
          split at h
          · rename_i hw
            cases hq : (quietOp ty o && !loadOp o) with
            | false => rw [hq] at h; exact h.elim
            | true =>
              rw [hq] at h
              simp only [cond_true] at h
              simp only [Bool.and_eq_true, Bool.not_eq_true'] at hq
              obtain ⟨v, hk, hsub, hany⟩ := quiet_ok h
              have hk' : wpAny P .any ops Q n (listed.setIfInBounds i true) ((act fr).put o.dst v.den) w := by
                rw [← act_put]
                exact splitFr_ok (G := fun a => wpAny P .any ops Q n (listed.setIfInBounds i true) a w) (fun fr' hk => ih _ _ _ hk) hk
              exact wpAny_first ho (Region.noSelect_spec hs) (fun c a w => hQ c _ _ a w) n listed (act fr) w hfr him (.inl ⟨wantedW_ok hw, hany hq.2⟩) hk'
          · rename_i hw
            have hk' := ih _ _ _ h
            rw [act_put] at hk'
            exact wpAny_first ho (Region.noSelect_spec hs) (fun c a w => hQ c _ _ a w) n listed (act fr) w hfr him (.inr ⟨wantedW_ok hw, rfl⟩) hk'
          · exact h.elim
        · exact h.elim
      · refine ⟨fun h0 => (by rw [h0] at hr; cases hr), fun i hi => ?_⟩
        rw [hr] at hi
        have h' := allD_all h i hi
        unfold wpOp
        split at h'
        · rename_i o ho
          split at h'
          · rename_i hw
            simp only [ho]
            rw [if_pos (wantedW_ok hw)]
            exact .inl (opL_ok (fun fr' w' hk => splitFr_ok (G := fun a => wpAny P .any ops Q n (listed.setIfInBounds i true) a w') (fun fr'' hk2 => ih _ _ _ hk2) hk) h')
          · exact h'.elim
        · exact h'.elim
/-- The reading with such regions, by their numbers; not below a loop. -/
def WR (P : Program) (ty : List RT) (LW : Code → Post → List SV → World → Prop) (alt : Nat → Bool) : Code → Post → List SV → World → Prop
  | .seq x y, Φ, fr, w => WR P ty LW alt x (thenW (WR P ty LW alt y Φ) Φ) fr w
  | .cond c x y, Φ, fr, w => condW (WR P ty LW alt x Φ fr w) (WR P ty LW alt y Φ fr w) (evS fr c)
  | .block id c, Φ, fr, w => WR P ty LW alt c (blockW id Φ) fr w
  | .region id ops d, Φ, fr, w => bif alt id && d then ∀ w', Drew w w' → (bif Region.noSelect ops then WE P ty ops (Φ .normal) ops.size (Array.replicate ops.size false) fr w' else False)
    else W P ty LW (.region id ops d) Φ fr w
  | c, Φ, fr, w => W P ty LW c Φ fr w
theorem WR_ok {P : Program} {ty : List RT} {LW : Code → Post → List SV → World → Prop} (hm : P.follows .mixedOrders = true) (hL : Sound P LW) {alt : Nat → Bool} :
    ∀ (c : Code) (Φ : Post) (fr : List SV) (w : World), WR P ty LW alt c Φ fr w → c.wp P (up Φ) (act fr) w
  | .seq x y, Φ, fr, w, h => by
    refine wp_seq (wp_mono (WR_ok hm hL x _ fr w h) ?_)
    rintro e a w' ⟨fr', rfl, h'⟩
    cases e <;> first | exact WR_ok hm hL y Φ fr' w' h' | exact ⟨fr', rfl, h'⟩
  | .cond c x y, Φ, fr, w, h => by
    have hc : (act fr).eval c = (evS fr c).den := act_eval fr c
    simp only [WR] at h
    generalize evS fr c = sc at *
    unfold condW at h
    split at h
    · exact wp_cond_true hc (WR_ok hm hL x Φ fr w h)
    · exact wp_cond_false hc (WR_ok hm hL y Φ fr w h)
    · rename_i b
      cases b with
      | true => exact wp_cond_true hc (WR_ok hm hL x Φ fr w (h.1 rfl))
      | false => exact wp_cond_false hc (WR_ok hm hL y Φ fr w (h.2 rfl))
    · exact h.elim
  | .block id c, Φ, fr, w, h => by
    refine wp_block (wp_mono (WR_ok hm hL c _ fr w h) ?_)
    rintro e a w' ⟨fr', rfl, h'⟩
    cases e <;> first
      | (rename_i id'
         simp only [blockW] at h'
         simp only [Exit.inBlock]
         cases hb : (id' == id) with
         | true => rw [hb] at h'; rw [if_pos (by simpa using hb)]; exact ⟨fr', rfl, h'⟩
         | false => rw [hb] at h'; rw [if_neg (by simpa using hb)]; exact ⟨fr', rfl, h'⟩)
      | exact ⟨fr', rfl, h'⟩
  | .region id ops d, Φ, fr, w, h => by
    simp only [WR] at h
    cases hb : (alt id && d) with
    | false => rw [hb] at h; exact W_ok hm hL _ Φ fr w h
    | true =>
      rw [hb] at h
      simp only [Bool.and_eq_true] at hb
      obtain ⟨_, rfl⟩ := hb
      have h' := h (w.drewN 1) rfl
      cases hs : Region.noSelect ops with
      | false => rw [hs] at h'; exact h'.elim
      | true =>
        rw [hs] at h'
        refine wp_region_noPanic (wp_region_any hm (WE_ok (K := Φ .normal) hs (fun fr' w' hk => ?_) ?_ _ _ _ _ h'))
        · exact ⟨fr', rfl, hk⟩
        · intro c d v a w hq; exact hq
  | .skip, Φ, fr, w, h => W_ok hm hL _ Φ fr w h
  | .label _, Φ, fr, w, h => W_ok hm hL _ Φ fr w h
  | .exit _, Φ, fr, w, h => W_ok hm hL _ Φ fr w h
  | .ret, Φ, fr, w, h => W_ok hm hL _ Φ fr w h
  | .loop _, Φ, fr, w, h => W_ok hm hL _ Φ fr w h
  | .rangeFunc .., _, _, _, h => h.elim
  | .goto _, _, _, _, h => h.elim
  | .scope _, _, _, _, h => h.elim
  | .refuse _, _, _, _, h => h.elim
def WCR (P : Program) (ty : List RT) (LW : Code → Post → List SV → World → Prop) (alt : Nat → Bool) (cut : Nat) (J : List SV → World → Prop) : Code → Post → List SV → World → Prop
  | .seq x y, Φ, fr, w => bif firstId y == cut then WR P ty LW alt x (thenW J Φ) fr w else WR P ty LW alt x (thenW (WCR P ty LW alt cut J y Φ) Φ) fr w
  | _, _, _, _ => False
theorem WCR_ok {P : Program} {ty : List RT} {LW : Code → Post → List SV → World → Prop} (hm : P.follows .mixedOrders = true) (hL : Sound P LW) {alt : Nat → Bool} {cut : Nat} {J : List SV → World → Prop} {Φ : Post} :
    ∀ (c : Code) (fr : List SV) (w : World), (∀ fr w, J fr w → (restOf cut c).wp P (up Φ) (act fr) w) → WCR P ty LW alt cut J c Φ fr w → c.wp P (up Φ) (act fr) w
  | .seq x y, fr, w, hJ, h => by
    simp only [WCR] at h
    simp only [restOf] at hJ
    cases hb : (firstId y == cut) with
    | true =>
      rw [hb] at h hJ
      simp only [cond_true] at h hJ
      refine wp_seq (wp_mono (WR_ok hm hL x _ fr w h) ?_)
      rintro e a w' ⟨fr', rfl, h'⟩
      cases e <;> first | exact hJ fr' w' h' | exact ⟨fr', rfl, h'⟩
    | false =>
      rw [hb] at h hJ
      simp only [cond_false] at h hJ
      refine wp_seq (wp_mono (WR_ok hm hL x _ fr w h) ?_)
      rintro e a w' ⟨fr', rfl, h'⟩
      cases e <;> first | exact WCR_ok hm hL y fr' w' hJ h' | exact ⟨fr', rfl, h'⟩
  | .skip, _, _, _, h => h.elim
  | .label _, _, _, _, h => h.elim
  | .exit _, _, _, _, h => h.elim
  | .ret, _, _, _, h => h.elim
  | .cond .., _, _, _, h => h.elim
  | .block .., _, _, _, h => h.elim
  | .region .., _, _, _, h => h.elim
  | .loop _, _, _, _, h => h.elim
  | .rangeFunc .., _, _, _, h => h.elim
  | .goto _, _, _, _, h => h.elim
  | .scope _, _, _, _, h => h.elim
  | .refuse _, _, _, _, h => h.elim
theorem cut_ok {P : Program} {c : Code} {Q : Exit → Act → World → Prop} {sp : List Slot} {D : Vals sp → World → Prop} {fr : List SV} {w : World} (h : doorW ⟨sp, D⟩ fr w)
    (hc : ∀ j v, D v w → c.wp P Q (act (mkT j 0 sp v)) w) : c.wp P Q (act fr) w := by
  unfold doorW at h
  cases hs : shapeT (⟨sp, D⟩ : Door).sp fr with
  | false => rw [hs] at h; exact h.elim
  | true =>
    rw [hs] at h
    obtain ⟨j, hj⟩ := shape_mk hs
    rw [hj]
    exact hc j _ h
theorem fn_wp {P : Program} {f : FuncId} {fn : Func} {c : Code}
    (hf : P.funcs[f]? = some fn) (hname : (fn.name == "runtime.NumGoroutine") = false) (hb : fn.body = some c) {n : Nat} (hn : fn.ntmps = n) (args : List Value) {t : RT} {K : t.T → World → Prop} {w : World}
    (h : c.wp P (up (fnPost P fn.results.toList t K)) (act (frame0 args n)) w) : Fc P f args.toArray w t K := by
  refine ⟨fun args w => ?_, ?_⟩
  · have h1 : fn.name ≠ "runtime.NumGoroutine" := by simpa using hname
    simp [callFunc, hf, h1, hb]
  · refine calls_of_wp hf hb ?_
    have he : act (frame0 args n) = { tmps := args.toArray ++ Array.replicate (fn.ntmps - args.toArray.size) undef, defers := [] } := by
      unfold act frame0
      simp only [List.map_append, List.map_map, List.map_replicate, List.size_toArray, hn]
      congr 1
      rw [show (SV.den ∘ SV.val) = (id : Value → Value) from rfl]
      apply Array.ext'
      simp [SV.den]
    rw [he] at h
    refine wp_mono h ?_
    rintro e a w' ⟨fr, rfl, h'⟩
    cases e with
    | normal => obtain ⟨x, hx, hk⟩ := results_ok h'; exact ⟨rfl, _, hx, x, rfl, hk⟩
    | ret => obtain ⟨x, hx, hk⟩ := results_ok h'; exact ⟨rfl, _, hx, x, rfl, hk⟩
    | exit k => exact h'.elim
    | goto l => exact h'.elim
    | panic ch => exact h'.elim
    | outgrown => exact h'.elim
end Go.Proofs.YtmecbbanklffgaaDoor.Eng

/- The reading of spec_l01Edge, and its contract. No condition. -/
namespace Go.Proofs.YtmecbbanklffgaaDoor
open Go Go.RowKit Eng Mem
set_option linter.unusedVariables false
set_option maxRecDepth 100000
def V_spec_l01Edge (i0 : Int) (j1 : Int) (w : World) (K : Int → World → Prop) : Prop :=
  (((decide (i0 > j1)) = true → ((2 : Int) ≠ 0 ∧ K (IntKind.i64.wrap ((IntKind.i64.wrap (Int.tdiv (IntKind.i64.wrap (i0 * (IntKind.i64.wrap (i0 - (1 : Int))))) (2 : Int))) + j1)) w)) ∧ ((decide (i0 > j1)) = false → ((2 : Int) ≠ 0 ∧ K (IntKind.i64.wrap ((IntKind.i64.wrap (Int.tdiv (IntKind.i64.wrap (j1 * (IntKind.i64.wrap (j1 - (1 : Int))))) (2 : Int))) + i0)) w)))

theorem eq_spec_l01Edge (i0 : Int) (j1 : Int) (w : World) (K : Int → World → Prop) :
    W Tryd.prog ty (fun _ _ _ _ => False) (bodyOf Tryd.f18) (fnPost Tryd.prog Tryd.f18.results.toList (.one (.int .i64)) K) (frame0 [(.int .i64 i0), (.int .i64 j1)] 22) w = V_spec_l01Edge i0 j1 w K := by
  kernel_rfl

theorem body_spec_l01Edge : Tryd.f18.body = some (bodyOf Tryd.f18) := by kernel_rfl
theorem name_spec_l01Edge : (Tryd.f18.name == "runtime.NumGoroutine") = false := by kernel_rfl

theorem walk_spec_l01Edge (i0 : Int) (j1 : Int) {w : World} {K : Int → World → Prop} (h : V_spec_l01Edge i0 j1 w K) : Fc Tryd.prog 18 #[(.int .i64 i0), (.int .i64 j1)] w (.one (.int .i64)) K :=
  fn_ok follows (sound_none _) Tryd.func18 name_spec_l01Edge body_spec_l01Edge Tryd.ntmps18 [(.int .i64 i0), (.int .i64 j1)] (Eq.mpr (eq_spec_l01Edge i0 j1 w K) h)

-- uses S5Made
theorem c_spec_l01Edge {i j : Int} {w : World} {K : Int → World → Prop} (h0 : 0 ≤ i) (h1 : i ≤ 17) (k0 : 0 ≤ j) (k1 : j ≤ 17) (hK : K (num i j) w) : Fc Tryd.prog F_spec_l01Edge #[.int .i64 i, .int .i64 j] w (.one (.int .i64)) K := by
  refine walk_spec_l01Edge _ _ ⟨fun h => ⟨by decide, ?_⟩, fun h => ⟨by decide, ?_⟩⟩
  · have h := dec_t h
    rw [wnum k0 k1 h0 h1]
    unfold num at hK
    rwa [if_neg (by omega)] at hK
  · have h := dec_f h
    rw [wnum h0 h1 k0 k1]
    unfold num at hK
    by_cases h' : i < j
    · rwa [if_pos h'] at hK
    · have : i = j := by omega
      subst this
      rwa [if_neg h'] at hK

end Go.Proofs.YtmecbbanklffgaaDoor

/- The reading of spec_l01In, and its contract. No condition. -/
namespace Go.Proofs.YtmecbbanklffgaaDoor
open Go Go.RowKit Eng Mem
set_option linter.unusedVariables false
set_option maxRecDepth 100000
def V_spec_l01In (n0 : Int) (low1 : Int) (high2 : Int) (w : World) (K : Bool → World → Prop) : Prop :=
  (((decide (n0 ≥ low1)) = true → K (decide (n0 ≤ high2)) w) ∧ ((decide (n0 ≥ low1)) = false → K false w))

theorem eq_spec_l01In (n0 : Int) (low1 : Int) (high2 : Int) (w : World) (K : Bool → World → Prop) :
    W Tryd.prog ty (fun _ _ _ _ => False) (bodyOf Tryd.f17) (fnPost Tryd.prog Tryd.f17.results.toList (.one .bool) K) (frame0 [(.int .i64 n0), (.int .i64 low1), (.int .i64 high2)] 15) w = V_spec_l01In n0 low1 high2 w K := by
  kernel_rfl

theorem body_spec_l01In : Tryd.f17.body = some (bodyOf Tryd.f17) := by kernel_rfl
theorem name_spec_l01In : (Tryd.f17.name == "runtime.NumGoroutine") = false := by kernel_rfl

theorem walk_spec_l01In (n0 : Int) (low1 : Int) (high2 : Int) {w : World} {K : Bool → World → Prop} (h : V_spec_l01In n0 low1 high2 w K) : Fc Tryd.prog 17 #[(.int .i64 n0), (.int .i64 low1), (.int .i64 high2)] w (.one .bool) K :=
  fn_ok follows (sound_none _) Tryd.func17 name_spec_l01In body_spec_l01In Tryd.ntmps17 [(.int .i64 n0), (.int .i64 low1), (.int .i64 high2)] (Eq.mpr (eq_spec_l01In n0 low1 high2 w K) h)

theorem c_spec_l01In (n lo hi : Int) {w : World} {K : Bool → World → Prop} (hK : K (decide (lo ≤ n ∧ n ≤ hi)) w) : Fc Tryd.prog F_spec_l01In #[.int .i64 n, .int .i64 lo, .int .i64 hi] w (.one .bool) K := by
  refine walk_spec_l01In n lo hi ⟨fun h => ?_, fun h => ?_⟩
  · have h := of_decide_eq_true h
    simpa [h] using hK
  · have h := of_decide_eq_false h
    have : ¬ lo ≤ n := h
    simpa [this] using hK

end Go.Proofs.YtmecbbanklffgaaDoor
