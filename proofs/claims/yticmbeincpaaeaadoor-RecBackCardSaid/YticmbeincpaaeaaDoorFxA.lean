/-
  The primitives of a small plain language into which the walks are read, each with the run of the model's operation behind it. No program stands here.
-/
import Derived.WalkKit
import Derived.OrdersHeld
import Derived.WalkLawsBesides
set_option linter.unusedVariables false
namespace Go.Fx

/-! ### Frames as functions -/
abbrev Env := Nat → Value
def upd (e : Env) (d : Nat) (v : Value) : Env := fun i => bif Nat.beq i d then v else e i
theorem upd_same (e : Env) (d : Nat) (v : Value) : upd e d v d = v := by simp [upd]
theorem upd_ne (e : Env) {d i : Nat} (v : Value) (h : i ≠ d) : upd e d v i = e i := by
  have : Nat.beq i d = false := by cases hb : Nat.beq i d with | false => rfl | true => exact absurd (Nat.eq_of_beq_eq_true hb) h
  simp [upd, this]
def updO (e : Env) : Option Nat → Value → Env
  | none, _ => e
  | some d, v => upd e d v
def ev (e : Env) : Operand → Value
  | .tmp t => e t
  | .const v => v
  | .global g => .pointer (some ⟨g, 0, none⟩)
  | .func f => .func (.func f) #[] #[]
def evs (e : Env) (l : List Operand) : List Value := l.map (ev e)

/-! ### Worlds -/
def setBlk (w : World) (g : Nat) (o : Obj) : World := { w with heap := w.heap.setIfInBounds g o }
theorem setBlk_self (w : World) (g : Nat) (o o' : Obj) (h : w.heap[g]? = some o') : (setBlk w g o).heap[g]? = some o := by
  have := (Array.getElem?_eq_some_iff.1 h).1
  simp [setBlk, this]
theorem setBlk_ne (w : World) {g k : Nat} (o : Obj) (h : k ≠ g) : (setBlk w g o).heap[k]? = w.heap[k]? := by
  simp [setBlk, Array.getElem?_setIfInBounds_ne (Ne.symm h)]
theorem setBlk_size (w : World) (g : Nat) (o : Obj) : (setBlk w g o).heap.size = w.heap.size := by simp [setBlk]

/-! ### Kinds of types -/
def aggr (P : Program) (t : TypeId) : Option Bool :=
  match P.underlying t with
  | some (.struct _) => some true
  | some (.array _ _) => some true
  | some _ => some false
  | none => none
def size? (P : Program) (t : TypeId) : Option Nat := (P.info? t).map (·.size)
def bytes? (P : Program) (t : TypeId) : Option Nat := (P.info? t).map (·.bytes)
/-- The cells of a type's zero value. -/
def zc (P : Program) (t : TypeId) : Array Value := (((P.info? t).bind (·.zero)).getD (.tuple #[])).cells
def fieldOff (P : Program) (s : TypeId) (f : Nat) : Option (Nat × Nat × Bool) :=
  match P.underlying s with
  | some (.struct fs) => (match fs[f]? with
    | some fd => (match size? P fd.type with
      | some n => (match aggr P fd.type with
        | some b => bif Nat.beq n 0 then none else some (fd.offset, n, b)
        | none => none)
      | none => none)
    | none => none)
  | _ => none

theorem run_isAgg {P : Program} {t : TypeId} {b : Bool} (h : aggr P t = some b) (w : World) : (isAgg t).run P w = .ok b w := by
  unfold aggr at h
  unfold isAgg
  cases hu : P.underlying t with
  | none => simp [hu] at h
  | some d =>
    rw [hu] at h
    simp only [Sem.run_bind, run_underlying hu, Result.andThen_ok]
    cases d <;> simp_all
theorem run_sizeOf {P : Program} {t : TypeId} {n : Nat} (h : size? P t = some n) (w : World) : (sizeOf t).run P w = .ok n w := by
  unfold size? at h
  unfold sizeOf typeInfo
  cases hi : P.info? t with
  | none => simp [hi] at h
  | some i => simp [hi] at h; simp [hi, h]
theorem run_typeInfo {P : Program} {t : TypeId} {i : TypeInfo} (h : P.info? t = some i) (w : World) : (typeInfo t).run P w = .ok i w := by
  unfold typeInfo; simp [h]

/-! ### The primitives -/
def nilc (v : Value) (K : Value → Prop) : Prop := (∃ a, v = .pointer (some a)) ∧ K v
def fad (off : Nat) (p : Value) (K : Value → Prop) : Prop := ∃ g o, p = .pointer (some ⟨g, o, none⟩) ∧ K (.pointer (some ⟨g, o + off, none⟩))
def pik (c a b : Value) (K : Value → Prop) : Prop := ∃ t : Bool, c = .bool t ∧ K (bif t then a else b)
def ld1 (p : Value) (h : Array Obj) (K : Value → Prop) : Prop :=
  ∃ g o cur t fr v, p = .pointer (some ⟨g, o, none⟩) ∧ h[g]? = some (.cells cur t fr) ∧ cur[o]? = some v ∧ K v
def ldN (n : Nat) (p : Value) (h : Array Obj) (K : Value → Prop) : Prop :=
  ∃ g o cur t fr, p = .pointer (some ⟨g, o, none⟩) ∧ h[g]? = some (.cells cur t fr) ∧ o + n ≤ cur.size ∧ K (.agg (cur.extract o (o + n)))
def st1 (p v : Value) (w : World) (K : World → Prop) : Prop :=
  ∃ g o cur t, p = .pointer (some ⟨g, o, none⟩) ∧ w.heap[g]? = some (.cells cur t (0, 0)) ∧ o < cur.size ∧ v.oneCell' = true ∧ K (setBlk w g (.cells (cur.setIfInBounds o v) t (0, 0)))
/-- Cells from o on replaced by others. -/
def splice (cur : Array Value) (o : Nat) (vs : List Value) : Array Value := (cur.toList.take o ++ vs ++ cur.toList.drop (o + vs.length)).toArray
def stN (n : Nat) (p v : Value) (w : World) (K : World → Prop) : Prop :=
  ∃ g o cur t cs, p = .pointer (some ⟨g, o, none⟩) ∧ v = .agg cs ∧ cs.size = n ∧ w.heap[g]? = some (.cells cur t (0, 0)) ∧ o + n ≤ cur.size ∧ (∀ u ∈ cs.toList, u.oneCell' = true) ∧
    K (setBlk w g (.cells (splice cur o cs.toList) t (0, 0)))

/-- An integer operation's value; none: it panics, or there is none. -/
def biv (op : BinOp) (k : IntKind) (a b : Int) : Option Value :=
  match op with
  | .add => some (.int k (k.wrap (a + b)))
  | .sub => some (.int k (k.wrap (a - b)))
  | .mul => some (.int k (k.wrap (a * b)))
  | .quo => if b = 0 then none else some (.int k (k.wrap (a.tdiv b)))
  | .rem => if b = 0 then none else some (.int k (a.tmod b))
  | .and => some (.int k (k.wrap ((BitVec.ofInt k.bits a &&& BitVec.ofInt k.bits b).toNat : Int)))
  | .or => some (.int k (k.wrap ((BitVec.ofInt k.bits a ||| BitVec.ofInt k.bits b).toNat : Int)))
  | .xor => some (.int k (k.wrap ((BitVec.ofInt k.bits a ^^^ BitVec.ofInt k.bits b).toNat : Int)))
  | .andNot => some (.int k (k.wrap ((BitVec.ofInt k.bits a &&& ~~~BitVec.ofInt k.bits b).toNat : Int)))
  | .eql => some (.bool (a == b))
  | .neq => some (.bool (a != b))
  | .lss => some (.bool (decide (a < b)))
  | .leq => some (.bool (decide (a ≤ b)))
  | .gtr => some (.bool (decide (a > b)))
  | .geq => some (.bool (decide (a ≥ b)))
  | _ => none
def bi (op : BinOp) (x y : Value) (K : Value → Prop) : Prop := ∃ k a b v, x = .int k a ∧ y = .int k b ∧ biv op k a b = some v ∧ K v
def shv (op : BinOp) (k : IntKind) (a b : Int) : Option Value :=
  if b < 0 then none else
  match op with
  | .shl => some (.int k (k.wrap (a * 2 ^ (min b.toNat k.bits))))
  | .shr => some (.int k (a.fdiv (2 ^ (min b.toNat k.bits))))
  | _ => none
def sh (op : BinOp) (x y : Value) (K : Value → Prop) : Prop := ∃ k j a b v, x = .int k a ∧ y = .int j b ∧ shv op k a b = some v ∧ K v
def notB (x : Value) (K : Value → Prop) : Prop := ∃ b, x = .bool b ∧ K (.bool !b)
def cvi (k : IntKind) (x : Value) (K : Value → Prop) : Prop := ∃ j n, x = .int j n ∧ K (.int k (k.wrap n))
def lenS (x : Value) (K : Value → Prop) : Prop := ∃ a n c, x = .slice a n c ∧ K (.int .i64 n)
def lenT (x : Value) (K : Value → Prop) : Prop := ∃ s, x = .string s ∧ K (.int .i64 s.size)
/-- An element's address. -/
def ixs (size : Nat) (x i : Value) (K : Value → Prop) : Prop :=
  ∃ g o n c k j, x = .slice (some ⟨g, o, none⟩) n c ∧ i = .int k j ∧ 0 ≤ j ∧ j < n ∧ K (.pointer (some ⟨g, o + j.toNat * size, none⟩))
def ixa (len size : Nat) (x i : Value) (K : Value → Prop) : Prop :=
  ∃ g o k j, x = .pointer (some ⟨g, o, none⟩) ∧ i = .int k j ∧ 0 ≤ j ∧ j < len ∧ K (.pointer (some ⟨g, o + j.toNat * size, none⟩))
def cellOf (b : Bool) (cs : Array Value) (off n : Nat) (K : Value → Prop) : Prop :=
  bif b then off + n ≤ cs.size ∧ K (.agg (cs.extract off (off + n))) else ∃ v, cs[off]? = some v ∧ K v
def fldv (off n : Nat) (b : Bool) (x : Value) (K : Value → Prop) : Prop := ∃ cs, x = .agg cs ∧ cellOf b cs off n K
def ixv (len n : Nat) (b : Bool) (x i : Value) (K : Value → Prop) : Prop := ∃ cs k j, x = .agg cs ∧ i = .int k j ∧ 0 ≤ j ∧ j < len ∧ cellOf b cs (j.toNat * n) n K
def ext (i : Nat) (x : Value) (K : Value → Prop) : Prop := ∃ vs v, x = .tuple vs ∧ vs[i]? = some v ∧ K v
/-- Where a slice expression's bound stands. -/
def bnd (x : Value) (most : Nat) (K : Nat → Prop) : Prop := ∃ k j, x = .int k j ∧ 0 ≤ j ∧ j ≤ most ∧ K j.toNat
def bndO (x : Option Value) (most dflt : Nat) (K : Nat → Prop) : Prop := match x with | none => K dflt | some v => bnd v most K
/-- A slice of a slice, no third index. -/
def slc (size : Nat) (x : Value) (lo hi : Option Value) (K : Value → Prop) : Prop :=
  ∃ a n c, x = .slice a n c ∧ bndO hi c n fun h => bndO lo h 0 fun l => K (.slice (if c = l then a else a.map (·.add (l * size))) (h - l) (c - l))
/-- A slice of an array behind an address. -/
def sla (len size : Nat) (x : Value) (lo hi : Option Value) (K : Value → Prop) : Prop :=
  ∃ a, x = .pointer (some a) ∧ bndO hi len len fun h => bndO lo h 0 fun l => K (.slice (some (if len = l then a else a.add (l * size))) (h - l) (len - l))
def nilP (neg : Bool) (x : Value) (K : Value → Prop) : Prop := ∃ p, x = .pointer p ∧ K (.bool (p.isNone != neg))
def nilS (neg : Bool) (x : Value) (K : Value → Prop) : Prop := ∃ a n c, x = .slice a n c ∧ K (.bool (a.isNone != neg))
def bx (t : TypeId) (v : Value) (w : World) (K : Value → World → Prop) : Prop := K (.pointer (some ⟨w.heap.size, 0, none⟩)) (w.alloc (.cells v.cells t))
/-- Any operation that yields a value and leaves the world alone. -/
def rdP (P : Program) (s : Sem Value) (w : World) (K : Value → Prop) : Prop := ∃ v, s.run P w = .ok v w ∧ K v
/-- Any operation that yields a value. -/
def efP (P : Program) (s : Sem Value) (w : World) (K : Value → World → Prop) : Prop := ∃ v w', s.run P w = .ok v w' ∧ K v w'
def efU (P : Program) (s : Sem Unit) (w : World) (K : World → Prop) : Prop := ∃ w', s.run P w = .ok () w' ∧ K w'
def Ret (R : Value → World → Prop) (e : Ending) (w : World) : Prop := ∃ v, e = .returned v ∧ R v w
def cal (P : Program) (f : FuncId) (args : List Value) (w : World) (K : Value → World → Prop) : Prop := Calls P f args.toArray w (Ret K)
def callable (P : Program) (f : FuncId) : Bool := (P.funcs[f]?).any fun fn => fn.body.isSome && !(fn.name == "runtime.NumGoroutine")
/-- A call of a function that has no Go body. -/
def efN (P : Program) (f : FuncId) (args : List Value) (w : World) (K : Value → World → Prop) : Prop := ∃ v w', (callFunc f args.toArray).run P w = .ok (.value v) w' ∧ K v w'
def calV (P : Program) (g : Value) (args : List Value) (w : World) (K : Value → World → Prop) : Prop :=
  ∃ f first cap, g = .func (.func f) first cap ∧ callable P f = true ∧ Calls P f (first ++ args.toArray ++ cap) w (Ret K)

inductive Cls where
  | pure (f : (Value → Prop) → Prop)
  | read (f : World → (Value → Prop) → Prop)
  | eff (f : World → (Value → World → Prop) → Prop)

def Cls.bad : Cls := .eff fun _ _ => False
def cField (P : Program) (s : TypeId) (f : Nat) (p : Value) : Cls :=
  match fieldOff P s f with
  | some (off, _, _) => .pure (fad off p)
  | none => .bad
def cFieldV (P : Program) (s : TypeId) (f : Nat) (x : Value) : Cls :=
  match fieldOff P s f with
  | some (off, n, b) => .pure (fldv off n b x)
  | none => .bad
def cLoad (P : Program) (t : TypeId) (p : Value) : Cls :=
  match aggr P t with
  | some false => .read (fun w => ld1 p w.heap)
  | some true => (match size? P t with | some n => .read (fun w => ldN n p w.heap) | none => .bad)
  | none => .bad
def cStore (P : Program) (t : TypeId) (p v : Value) : Cls :=
  match size? P t with
  | some n => (match aggr P t with
    | some true => .eff fun w K => stN n p v w (K undef)
    | some false => bif Nat.beq n 1 then .eff fun w K => st1 p v w (K undef) else .bad
    | none => .bad)
  | none => .bad
/-- How '==' and its kin are read: by the operands' type; 'c': the second operand is the literal nil. -/
def cBin (P : Program) (op : BinOp) (t : TypeId) (c : Nat) (x y : Value) (s : Sem Value) : Cls :=
  match P.underlying t with
  | some (.int _) => (match op with
    | .shl => .pure (sh .shl x y)
    | .shr => .pure (sh .shr x y)
    | op => .pure (bi op x y))
  | some (.pointer _) => (bif Nat.beq c 1 then (match op with
    | .eql => .pure (nilP false x)
    | .neq => .pure (nilP true x)
    | _ => .read (rdP P s)) else .read (rdP P s))
  | some (.slice _) => (bif Nat.beq c 2 then (match op with
    | .eql => .pure (nilS false x)
    | .neq => .pure (nilS true x)
    | _ => .read (rdP P s)) else .read (rdP P s))
  | _ => .read (rdP P s)
/-- '==' and its kin on values that are no integers. -/
def eqS (op : BinOp) (t : TypeId) (x y : Operand) (a b : Value) : Sem Value := do eqGuard op t x y a b; binOp op t a b
def isNil : Operand → Nat
  | .const (.pointer none) => 1
  | .const (.slice none 0 0) => 2
  | _ => 0
def cConv (P : Program) (s d : TypeId) (x : Value) : Cls :=
  match P.underlying s, P.underlying d with
  | some (.int _), some (.int k) => .pure (cvi k x)
  | some (.slice _), some .string => .read (rdP P (convert s d x))
  | _, _ => .eff (efP P (convert s d x))
def cIxA (P : Program) (t : TypeId) (x i : Value) : Cls :=
  match P.underlying t with
  | some (.slice e) => (match size? P e with | some n => .pure (ixs n x i) | none => .bad)
  | some (.array len e) => (match size? P e with | some n => .pure (ixa len n x i) | none => .bad)
  | _ => .bad
def cIx (P : Program) (t : TypeId) (x i : Value) : Cls :=
  match P.underlying t with
  | some (.array len e) => (match size? P e with
    | some n => (match aggr P e with | some b => .pure (ixv len n b x i) | none => .bad)
    | none => .bad)
  | _ => .read (rdP P (Instr.index t x i))
def cSlice (P : Program) (t : TypeId) (x : Value) (lo hi mx : Option Value) : Cls :=
  match mx with
  | some _ => .read (rdP P (Instr.sliceAt t x lo hi mx))
  | none => (match P.underlying t with
    | some (.slice e) => (match size? P e with | some n => .pure (slc n x lo hi) | none => .bad)
    | some (.array len e) => (match size? P e with | some n => .pure (sla len n x lo hi) | none => .bad)
    | _ => .read (rdP P (Instr.sliceAt t x lo hi none)))
def cLen (P : Program) (ty : TypeId) (args : List Value) (ts : List TypeId) : Cls :=
  match args, ts with
  | [x], [t] => (match P.underlying t with
    | some (.slice _) => .pure (lenS x)
    | some .string => .pure (lenT x)
    | _ => .read (rdP P (Builtin.len_ #[t] ty #[x])))
  | _, _ => .bad
def cBuiltin (P : Program) (b : Builtin) (ty : TypeId) (args : List Value) (ts : Array TypeId) : Cls :=
  match b with
  | .len => cLen P ty args ts.toList
  | .cap => .read (rdP P (Builtin.cap_ ts ty args.toArray))
  | .append => .eff (efP P (Builtin.append_ ts ty args.toArray))
  | .copy => .eff (efP P (Builtin.copy_ ts ty args.toArray))
  | .min => .read (rdP P (Builtin.min_ ts ty args.toArray))
  | .max => .read (rdP P (Builtin.max_ ts ty args.toArray))
  | .delete => .eff (efP P (Builtin.delete_ ts ty args.toArray))
  | .clear => .eff (efP P (Builtin.clear_ ts ty args.toArray))
  | _ => .bad
def cCall (P : Program) (ρ : Operand → Value) (ty : TypeId) (c : Call) : Cls :=
  match c.callee with
  | .value (.func f) => bif callable P f then .eff (cal P f (c.args.toList.map ρ)) else .eff (efN P f (c.args.toList.map ρ))
  | .value g => .eff (calV P (ρ g) (c.args.toList.map ρ))
  | .builtin b => cBuiltin P b ty (c.args.toList.map ρ) c.argTypes
  | _ => .bad
def cUn (P : Program) (op : UnOp) (x : Value) : Cls :=
  match op with
  | .not => .pure (notB x)
  | op => .read (rdP P (Op.unary op x))
def partsOf (ρ : Operand → Value) (parts : Array (Nat × Operand)) : Array (Nat × Value) := (parts.toList.map fun p => (p.1, ρ p.2)).toArray
/-- What an operation is read as. -/
def cls (P : Program) (ρ : Operand → Value) (o : Op) (ty : TypeId) : Cls :=
  match o with
  | .move x => .pure fun K => K (ρ x)
  | .assign x => .pure fun K => K (ρ x)
  | .pick c a b => .pure (pik (ρ c) (ρ a) (ρ b))
  | .nilCheck x => .pure (nilc (ρ x))
  | .fieldAddr s x f => cField P s f (ρ x)
  | .load t a => cLoad P t (ρ a)
  | .store t a x => cStore P t (ρ a) (ρ x)
  | .binOp op t x y _ => cBin P op t (isNil y) (ρ x) (ρ y) (eqS op t x y (ρ x) (ρ y))
  | .unOp op _ x => cUn P op (ρ x)
  | .convert s d x => cConv P s d (ρ x)
  | .indexAddr t x i => cIxA P t (ρ x) (ρ i)
  | .field t x f => cFieldV P t f (ρ x)
  | .index t x i => cIx P t (ρ x) (ρ i)
  | .extract x i => .pure (ext i (ρ x))
  | .slice t x lo hi mx => cSlice P t (ρ x) (lo.map ρ) (hi.map ρ) (mx.map ρ)
  | .box t x => .eff (bx t (ρ x))
  | .alloc t => .eff (efP P (Instr.alloc t true (.tuple #[])))
  | .build t parts => .read (rdP P (Instr.build t (partsOf ρ parts)))
  | .buildSlice t n parts => .eff (efP P (Instr.buildSlice t n (partsOf ρ parts)))
  | .makeFunc fn first cap => .pure fun K => K (.func fn (first.toList.map ρ).toArray (cap.toList.map ρ).toArray)
  | .makeSlice t l c => .eff (efP P (Instr.makeSlice t (ρ l) (ρ c)))
  | .makeMap t r => .eff (efP P (Instr.makeMap t (r.map ρ)))
  | .lookup t x i ok => .read (rdP P (Instr.lookup t (ρ x) (ρ i) ok))
  | .mapUpdate t m k x => .eff fun w K => efU P (Instr.mapUpdate t (ρ m) (ρ k) (ρ x)) w (K undef)
  | .insert t m k x => .eff fun w K => efU P (Instr.mapUpdate t (ρ m) (ρ k) (ρ x)) w (K undef)
  | .mapEntry t m k => .eff (efP P (Instr.mapEntry t (ρ m) (ρ k)))
  | .entryStore t m s x => .eff fun w K => efU P (Instr.entryStore t (ρ m) (ρ s) (ρ x)) w (K undef)
  | .range t x => .eff (efP P (Instr.range t (ρ x)))
  | .next it s => .eff (efP P (Instr.next (ρ it) s ty))
  | .makeInterface t x => .read (rdP P (Instr.makeInterface t (ρ x)))
  | .typeAssert x t u k => .read (rdP P (Instr.typeAssert (ρ x) t u k))
  | .sliceToArrayPointer t x => .read (rdP P (Instr.arrayAt t (ρ x)))
  | .call c => cCall P ρ ty c
  | _ => .bad

/-! ### What stands behind each -/
def PureOk (P : Program) (ρ : Operand → Value) (o : Oper) (f : (Value → Prop) → Prop) : Prop := ∀ K, f K → ∃ v, K v ∧ ∀ w, (execOp ρ o).run P w = .ok (.value v) w
def ReadOk (P : Program) (ρ : Operand → Value) (o : Oper) (f : World → (Value → Prop) → Prop) : Prop := ∀ w K, f w K → ∃ v, K v ∧ (execOp ρ o).run P w = .ok (.value v) w
def EffOk (P : Program) (ρ : Operand → Value) (o : Oper) (f : World → (Value → World → Prop) → Prop) : Prop :=
  ∀ w K, f w K → (∃ v w', K v w' ∧ ((execOp ρ o).run P w = .ok (.value v) w' ∨ ((execOp ρ o).run P w = .ok .skip w' ∧ v = undef))) ∨
    (∃ g args, (execOp ρ o).run P w = .ok (.enter g args) w ∧ Calls P g args w (Ret K))
def ClsOk (P : Program) (ρ : Operand → Value) (o : Oper) : Cls → Prop
  | .pure f => PureOk P ρ o f
  | .read f => ReadOk P ρ o f
  | .eff f => EffOk P ρ o f
def callOk (_ : Program) (_ : Op) : Bool := true
theorem clsOk_bad {P : Program} {ρ : Operand → Value} {o : Oper} : ClsOk P ρ o .bad := fun _ _ h => h.elim
theorem toArray_map (ρ : Operand → Value) (a : Array Operand) : (a.toList.map ρ).toArray = a.map ρ := by
  apply Array.ext'; simp
theorem run_callFunc {P : Program} {f : FuncId} (h : callable P f = true) (args : Array Value) (w : World) : (callFunc f args).run P w = .ok (.enter f args) w := by
  unfold callable at h
  unfold callFunc
  cases hf : P.funcs[f]? with
  | none => simp [hf] at h
  | some fn =>
    simp only [hf, Option.any_some, Bool.and_eq_true, Bool.not_eq_true'] at h
    have h1 : fn.body.isNone = false := by cases hb : fn.body <;> simp_all
    simp only [Sem.run_bind, run_program, Result.andThen_ok, hf, h.2, h1, Bool.false_eq_true, if_false]
    rfl
theorem loadCells_ext {P : Program} {w : World} {g o n : Nat} {cur : Array Value} {t : TypeId} {fr : Nat × Nat} (hg : w.heap[g]? = some (.cells cur t fr)) (hn : o + n ≤ cur.size) :
    (loadCells ⟨g, o, none⟩ n).run P w = .ok (cur.extract o (o + n)) w := by
  have hl : ((cur.extract o (o + n)).toList).length = n := by simp; omega
  have := run_loadCells_list (P := P) w ⟨g, o, none⟩ (cur.extract o (o + n)).toList (by
    intro j v hj
    have hadd : (⟨g, o, none⟩ : Addr).add j = ⟨g, o + j, none⟩ := by unfold Addr.add; split <;> simp_all
    rw [hadd]
    simp only [World.cell?, hg]
    simp only [Array.getElem?_toList, Array.getElem?_extract] at hj
    split at hj
    · simpa using hj
    · cases hj)
  rw [hl] at this
  rw [this]
theorem setCell_setBlk (w : World) (g o : Nat) (cur : Array Value) (t : TypeId) (fr : Nat × Nat) (v : Value) (hg : w.heap[g]? = some (.cells cur t fr)) :
    w.setCell ⟨g, o, none⟩ v = setBlk w g (.cells (cur.setIfInBounds o v) t fr) := by
  unfold World.setCell setBlk
  congr 1
  apply Array.ext_getElem?
  intro k
  simp only [Array.getElem?_modify, Array.getElem?_setIfInBounds]
  by_cases hk : g = k
  · subst hk
    have := (Array.getElem?_eq_some_iff.1 hg).1
    rw [if_pos rfl, if_pos rfl, if_pos this, hg]
    rfl
  · simp [hk]
theorem setRow_setBlk (w : World) (g : Nat) (cur cs : Array Value) (t : TypeId) (fr : Nat × Nat) (hg : w.heap[g]? = some (.cells cur t fr)) :
    w.setRow g cs = setBlk w g (.cells cs t fr) := by
  unfold World.setRow setBlk
  congr 1
  apply Array.ext_getElem?
  intro k
  simp only [Array.getElem?_modify, Array.getElem?_setIfInBounds]
  by_cases hk : g = k
  · subst hk
    have := (Array.getElem?_eq_some_iff.1 hg).1
    rw [if_pos rfl, if_pos rfl, if_pos this, hg]
    rfl
  · simp [hk]
theorem Addr_add_mk (g o n : Nat) : (⟨g, o, none⟩ : Addr).add n = ⟨g, o + n, none⟩ := by unfold Addr.add; split <;> simp_all


theorem andThen_assoc {α β γ : Type} (r : Result α) (f : α → World → Result β) (g : β → World → Result γ) : (r.andThen f).andThen g = r.andThen fun a w => (f a w).andThen g := by
  cases r <;> rfl
section
variable {P : Program} {ρ : Operand → Value} {o : Oper}
theorem pureOk_of {f : (Value → Prop) → Prop} (h : ∀ K, f K → ∃ v, K v ∧ ∀ w, (execOp ρ o).run P w = .ok (.value v) w) : ClsOk P ρ o (.pure f) := h
theorem readOk_of {f : World → (Value → Prop) → Prop} (h : ∀ w K, f w K → ∃ v, K v ∧ (execOp ρ o).run P w = .ok (.value v) w) : ClsOk P ρ o (.read f) := h
theorem effOk_of {f : World → (Value → World → Prop) → Prop} (h : ∀ w K, f w K → ∃ v w', K v w' ∧ (execOp ρ o).run P w = .ok (.value v) w') : ClsOk P ρ o (.eff f) :=
  fun w K hf => let ⟨v, w', hk, hr⟩ := h w K hf; .inl ⟨v, w', hk, .inl hr⟩
theorem effOk_unit {f : World → (Value → World → Prop) → Prop} (h : ∀ w K, f w K → ∃ w', K undef w' ∧ (execOp ρ o).run P w = .ok .skip w') : ClsOk P ρ o (.eff f) :=
  fun w K hf => let ⟨w', hk, hr⟩ := h w K hf; .inl ⟨undef, w', hk, .inr ⟨hr, rfl⟩⟩
theorem effOk_val {s : Sem Value} (h : ∀ w, (execOp ρ o).run P w = (s.run P w).andThen fun v w' => .ok (.value v) w') : ClsOk P ρ o (.eff (efP P s)) :=
  effOk_of fun w K ⟨v, w', hr, hk⟩ => ⟨v, w', hk, by rw [h, hr]; rfl⟩
theorem readOk_val {s : Sem Value} (h : ∀ w, (execOp ρ o).run P w = (s.run P w).andThen fun v w' => .ok (.value v) w') : ClsOk P ρ o (.read (rdP P s)) :=
  readOk_of fun w K ⟨v, hr, hk⟩ => ⟨v, hk, by rw [h, hr]; rfl⟩
theorem effOk_u {s : Sem Unit} (h : ∀ w, (execOp ρ o).run P w = (s.run P w).andThen fun _ w' => .ok .skip w') : ClsOk P ρ o (.eff fun w K => efU P s w (K undef)) :=
  effOk_unit fun w K ⟨w', hr, hk⟩ => ⟨w', hk, by rw [h, hr]; rfl⟩
end
end Go.Fx
