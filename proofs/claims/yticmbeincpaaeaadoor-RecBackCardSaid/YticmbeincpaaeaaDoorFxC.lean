/-
  The reading of a function's code, and its soundness: what the reading asks is enough for the model's run of the code.
-/
import Derived.Test.YticmbeincpaaeaaDoorFxB
import Derived.ScopeJumps
import Derived.Test.YticmbeincpaaeaaDoorFxG
set_option linter.unusedVariables false
namespace Go.Fx

/-! ### Marks beside the code: which slots live behind a join, which a loop carries, in which order a drawn region is read -/
/-- In which orders a drawn region's operations are read: one that may be taken first, or all that may come next. -/
inductive Pl where
  | nil
  | step (i : Nat) (p : Pl)
  | br (p : Pl)
  | alt (i : Nat) (p q : Pl)
  | non
inductive An where
  | o
  | s (a b : An)
  | b (a : An)
  | j (slots : List Nat) (a : An)
  | l (slots : List Nat) (a : An)
  | r (gs : List (List Nat))
  | d (plan : List Nat) (gs : List (List Nat))
  | dc (plan cuts : List Nat) (gs : List (List Nat))
  | dt (pl : Pl) (cuts slots : List Nat)
  | g (l : Nat) (slots : List Nat) (a b : An)

def cnd (v : Value) (x y : Prop) : Prop := ∃ b, v = .bool b ∧ (b = true → x) ∧ (b = false → y)
def gif (v : Value) (want : Bool) (x y : Prop) : Prop := (v = .bool want → x) ∧ (v ≠ .bool want → y)
def jn0 (body : (World → Prop) → Prop) (rest : Env → World → Prop) : Prop := ∃ J : World → Prop, body J ∧ ∀ w, J w → ∀ junk, rest junk w
def jn1 (body : (Value → World → Prop) → Prop) (rest : Env → Value → World → Prop) : Prop := ∃ J : Value → World → Prop, body J ∧ ∀ a w, J a w → ∀ junk, rest junk a w
def jn2 (body : (Value → Value → World → Prop) → Prop) (rest : Env → Value → Value → World → Prop) : Prop :=
  ∃ J : Value → Value → World → Prop, body J ∧ ∀ a b w, J a b w → ∀ junk, rest junk a b w
def jn3 (body : (Value → Value → Value → World → Prop) → Prop) (rest : Env → Value → Value → Value → World → Prop) : Prop :=
  ∃ J : Value → Value → Value → World → Prop, body J ∧ ∀ a b c w, J a b c w → ∀ junk, rest junk a b c w
def jn4 (body : (Value → Value → Value → Value → World → Prop) → Prop) (rest : Env → Value → Value → Value → Value → World → Prop) : Prop :=
  ∃ J : Value → Value → Value → Value → World → Prop, body J ∧ ∀ a b c d w, J a b c d w → ∀ junk, rest junk a b c d w
def jn5 (body : (Value → Value → Value → Value → Value → World → Prop) → Prop) (rest : Env → Value → Value → Value → Value → Value → World → Prop) : Prop :=
  ∃ J : Value → Value → Value → Value → Value → World → Prop, body J ∧ ∀ a b c d f w, J a b c d f w → ∀ junk, rest junk a b c d f w
def lp1 (a0 : Value) (w0 : World) (body : Env → Value → World → (Value → World → Prop) → Prop) : Prop :=
  ∃ (I : Value → World → Prop) (μ : Value → World → Nat), I a0 w0 ∧ ∀ a w, I a w → ∀ junk, body junk a w fun a' w' => I a' w' ∧ μ a' w' < μ a w
def lp2 (a0 b0 : Value) (w0 : World) (body : Env → Value → Value → World → (Value → Value → World → Prop) → Prop) : Prop :=
  ∃ (I : Value → Value → World → Prop) (μ : Value → Value → World → Nat), I a0 b0 w0 ∧ ∀ a b w, I a b w → ∀ junk, body junk a b w fun a' b' w' => I a' b' w' ∧ μ a' b' w' < μ a b w
def lp3 (a0 b0 c0 : Value) (w0 : World) (body : Env → Value → Value → Value → World → (Value → Value → Value → World → Prop) → Prop) : Prop :=
  ∃ (I : Value → Value → Value → World → Prop) (μ : Value → Value → Value → World → Nat), I a0 b0 c0 w0 ∧
    ∀ a b c w, I a b c w → ∀ junk, body junk a b c w fun a' b' c' w' => I a' b' c' w' ∧ μ a' b' c' w' < μ a b c w
def lp4 (a0 b0 c0 d0 : Value) (w0 : World) (body : Env → Value → Value → Value → Value → World → (Value → Value → Value → Value → World → Prop) → Prop) : Prop :=
  ∃ (I : Value → Value → Value → Value → World → Prop) (μ : Value → Value → Value → Value → World → Nat), I a0 b0 c0 d0 w0 ∧
    ∀ a b c d w, I a b c d w → ∀ junk, body junk a b c d w fun a' b' c' d' w' => I a' b' c' d' w' ∧ μ a' b' c' d' w' < μ a b c d w
def lp5 (a0 b0 c0 d0 f0 : Value) (w0 : World) (body : Env → Value → Value → Value → Value → Value → World → (Value → Value → Value → Value → Value → World → Prop) → Prop) : Prop :=
  ∃ (I : Value → Value → Value → Value → Value → World → Prop) (μ : Value → Value → Value → Value → Value → World → Nat), I a0 b0 c0 d0 f0 w0 ∧
    ∀ a b c d f w, I a b c d f w → ∀ junk, body junk a b c d f w fun a' b' c' d' f' w' => I a' b' c' d' f' w' ∧ μ a' b' c' d' f' w' < μ a b c d f w
def lp0 (w0 : World) (body : Env → World → (World → Prop) → Prop) : Prop :=
  ∃ (I : World → Prop) (μ : World → Nat), I w0 ∧ ∀ w, I w → ∀ junk, body junk w fun w' => I w' ∧ μ w' < μ w
def rdS (S : World → Prop) (f : World → (Value → Prop) → Prop) (K : Value → Prop) : Prop := ∃ v, (∀ w, S w → f w fun u => u = v) ∧ K v
def efS (S : World → Prop) (f : World → (Value → World → Prop) → Prop) (w : World) (K : Value → World → Prop) : Prop := f w fun v w' => S w' ∧ K v w'
/-- An effect behind which the held condition is chosen anew. -/
def efC (f : World → (Value → World → Prop) → Prop) (w : World) (K : (World → Prop) → Value → World → Prop) : Prop := f w fun v w' => ∃ S : World → Prop, S w' ∧ K S v w'
def drw (w : World) (K : World → Prop) : Prop := K { w with drawn := w.drawn + 1 }
def drH (w : World) (K : (World → Prop) → World → Prop) : Prop := ∃ S : World → Prop, S { w with drawn := w.drawn + 1 } ∧ K S { w with drawn := w.drawn + 1 }

/-- A frame of which the slots of W hold whatever another one holds. -/
def junkify (W : List Nat) (junk e : Env) : Env := fun i => bif W.any (Nat.beq i) then junk i else e i
def joinN (slots W : List Nat) (e : Env) (body : (Env → World → Prop) → Prop) (rest : Env → World → Prop) : Prop :=
  match slots with
  | [] => jn0 (fun k => body fun e' w' => k w') fun junk w' => rest (junkify W junk e) w'
  | [a] => jn1 (fun k => body fun e' w' => k (e' a) w') fun junk v w' => rest (upd (junkify W junk e) a v) w'
  | [a, b] => jn2 (fun k => body fun e' w' => k (e' a) (e' b) w') fun junk v u w' => rest (upd (upd (junkify W junk e) a v) b u) w'
  | [a, b, c] => jn3 (fun k => body fun e' w' => k (e' a) (e' b) (e' c) w') fun junk v u t w' => rest (upd (upd (upd (junkify W junk e) a v) b u) c t) w'
  | [a, b, c, d] => jn4 (fun k => body fun e' w' => k (e' a) (e' b) (e' c) (e' d) w') fun junk v u t s w' => rest (upd (upd (upd (upd (junkify W junk e) a v) b u) c t) d s) w'
  | [a, b, c, d, f] => jn5 (fun k => body fun e' w' => k (e' a) (e' b) (e' c) (e' d) (e' f) w') fun junk v u t s r w' => rest (upd (upd (upd (upd (upd (junkify W junk e) a v) b u) c t) d s) f r) w'
  | _ => False
def loopN (slots W : List Nat) (e : Env) (w : World) (body : Env → World → (Env → World → Prop) → Prop) : Prop :=
  match slots with
  | [] => lp0 w fun junk w again => body (junkify W junk e) w fun e' w' => again w'
  | [a] => lp1 (e a) w fun junk v w again => body (upd (junkify W junk e) a v) w fun e' w' => again (e' a) w'
  | [a, b] => lp2 (e a) (e b) w fun junk v u w again => body (upd (upd (junkify W junk e) a v) b u) w fun e' w' => again (e' a) (e' b) w'
  | [a, b, c] => lp3 (e a) (e b) (e c) w fun junk v u t w again => body (upd (upd (upd (junkify W junk e) a v) b u) c t) w fun e' w' => again (e' a) (e' b) (e' c) w'
  | [a, b, c, d] => lp4 (e a) (e b) (e c) (e d) w fun junk v u t s w again => body (upd (upd (upd (upd (junkify W junk e) a v) b u) c t) d s) w fun e' w' => again (e' a) (e' b) (e' c) (e' d) w'
  | [a, b, c, d, f] => lp5 (e a) (e b) (e c) (e d) (e f) w fun junk v u t s r w again => body (upd (upd (upd (upd (upd (junkify W junk e) a v) b u) c t) d s) f r) w fun e' w' => again (e' a) (e' b) (e' c) (e' d) (e' f) w'
  | _ => False

inductive Md where
  | plain
  | quiet
  | held (S : World → Prop)
/-- Whether an operation may change the world. -/
def effOp (P : Program) : Op → Bool
  | .store .. | .box .. | .alloc _ | .buildSlice .. | .makeSlice .. | .makeMap .. | .mapUpdate .. | .insert .. | .mapEntry .. | .entryStore .. | .range .. | .next .. => true
  | .convert s d _ => (match P.underlying s, P.underlying d with | some (.int _), some (.int _) => false | some (.slice _), some .string => false | _, _ => true)
  | .call c => (match c.callee with | .builtin .len | .builtin .cap | .builtin .min | .builtin .max => false | _ => true)
  | _ => false
def stepOp (P : Program) (m : Md) (o : Oper) (e : Env) (w : World) (K : Value → World → Prop) : Prop :=
  match m with
  | .plain => (match cls P (ev e) o.op o.type with
    | .pure f => f fun v => K v w
    | .read f => f w fun v => K v w
    | .eff f => f w K)
  | .quiet => bif effOp P o.op then False else (match cls P (ev e) o.op o.type with
    | .pure f => f fun v => K v w
    | .read f => f w fun v => K v w
    | .eff f => False)
  | .held S => bif effOp P o.op then (match cls P (ev e) o.op o.type with
      | .eff f => efS S f w K
      | _ => False)
    else (match cls P (ev e) o.op o.type with
      | .pure f => f fun v => K v w
      | .read f => rdS S f fun v => K v w
      | .eff f => False)
def gslot (ops : Array Oper) (j : Nat) : Option Nat := match ops[j]? with | some o => o.dst | none => none
def gval (ops : Array Oper) (e : Env) (j : Nat) : Value := match gslot ops j with | some d => e d | none => undef
def sameG (ops : Array Oper) (g : Nat × Bool) (i : Nat) : Bool :=
  match ops[i]? with
  | some o => (match o.guard with | some (j, b) => Nat.beq j g.1 && (b == g.2) | none => false)
  | none => false
def dstOf (ops : Array Oper) (i : Nat) : Option Nat := match ops[i]? with | some o => o.dst | none => none
def writesOps (ops : Array Oper) (l : List Nat) : List Nat := l.filterMap (dstOf ops)
def skips (ops : Array Oper) : List Nat → Env → Env
  | [], e => e
  | i :: l, e => skips ops l (updO e (dstOf ops i) undef)
def runGrp (P : Program) (ops : Array Oper) (m : Md) : List Nat → Env → World → (Env → World → Prop) → Prop
  | [], e, w, K => K e w
  | i :: l, e, w, K => match ops[i]? with
    | some o => stepOp P m o e w fun v w' => runGrp P ops m l (updO e o.dst v) w' K
    | none => False
def runOps (P : Program) (ops : Array Oper) (m : Md) : Nat → List (List Nat) → List Nat → Env → World → (Env → World → Prop) → Prop
  | _, _, [], e, w, K => K e w
  | 0, _, _ :: _, _, _, _ => False
  | n + 1, gs, i :: l, e, w, K => match ops[i]? with
    | none => False
    | some o => (match o.guard with
      | none => stepOp P m o e w fun v w' => runOps P ops m n gs l (updO e o.dst v) w' K
      | some g => (match gs with
        | slots :: gs' => joinN slots (writesOps ops (i :: l.takeWhile (sameG ops g))) e
            (fun k => gif (gval ops e g.1) g.2 (runGrp P ops m (i :: l.takeWhile (sameG ops g)) e w k) (k (skips ops (i :: l.takeWhile (sameG ops g)) e) w))
            (fun e' w' => runOps P ops m n gs' (l.dropWhile (sameG ops g)) e' w' K)
        | [] => False))

def runOpsC (P : Program) (ops : Array Oper) (cuts : List Nat) : Nat → (World → Prop) → List (List Nat) → List Nat → Env → World → (Env → World → Prop) → Prop
  | _, _, _, [], e, w, K => K e w
  | 0, _, _, _ :: _, _, _, _ => False
  | n + 1, S, gs, i :: l, e, w, K => match ops[i]? with
    | none => False
    | some o => (match o.guard with
      | none => bif cuts.any (Nat.beq i) then (match cls P (ev e) o.op o.type with
          | .eff f => efC f w fun S' v w' => runOpsC P ops cuts n S' gs l (updO e o.dst v) w' K
          | _ => False)
        else stepOp P (.held S) o e w fun v w' => runOpsC P ops cuts n S gs l (updO e o.dst v) w' K
      | some g => (match gs with
        | slots :: gs' => joinN slots (writesOps ops (i :: l.takeWhile (sameG ops g))) e
            (fun k => gif (gval ops e g.1) g.2 (runGrp P ops (.held S) (i :: l.takeWhile (sameG ops g)) e w k) (k (skips ops (i :: l.takeWhile (sameG ops g)) e) w))
            (fun e' w' => runOpsC P ops cuts n S gs' (l.dropWhile (sameG ops g)) e' w' K)
        | [] => False))

def runOne (P : Program) (ops : Array Oper) (cuts : List Nat) (i : Nat) (S : World → Prop) (e : Env) (w : World) (K : (World → Prop) → Env → World → Prop) : Prop :=
  match ops[i]? with
  | none => False
  | some o => (match o.guard with
    | some _ => False
    | none => bif cuts.any (Nat.beq i) then (match cls P (ev e) o.op o.type with
        | .eff f => efC f w fun S' v w' => K S' (updO e o.dst v) w'
        | _ => False)
      else stepOp P (.held S) o e w fun v w' => K S (updO e o.dst v) w')
def runT (P : Program) (ops : Array Oper) (cuts : List Nat) : Pl → (World → Prop) → Env → World → (Env → World → Prop) → Prop
  | .nil, _, e, w, K => K e w
  | .step i p, S, e, w, K => runOne P ops cuts i S e w fun S' e' w' => runT P ops cuts p S' e' w' K
  | .br p, S, e, w, K => runT P ops cuts p S e w K
  | .alt i p q, S, e, w, K => (runOne P ops cuts i S e w fun S' e' w' => runT P ops cuts p S' e' w' K) ∧ runT P ops cuts q S e w K
  | .non, _, _, _, _ => True
def writes : Code → List Nat
  | .region _ ops _ => writesOps ops (List.range ops.size)
  | .seq a b => writes a ++ writes b
  | .cond _ a b => writes a ++ writes b
  | .block _ c => writes c
  | .loop c => writes c
  | .scope c => writes c
  | _ => []
/-! A scope into which the run jumps back: what stands ahead of the label, what behind it; what behind it stands ahead of the jump. -/
def headOf (l : Nat) : Code → Option Code
  | .seq (.label l') _ => bif Nat.beq l' l then some .skip else none
  | .seq a b => bif (findLabel a l).isNone then (headOf l b).map (.seq a) else none
  | _ => none
def backOf (l : Nat) : Code → Option Code
  | .seq (.label l') b => bif Nat.beq l' l then some b else none
  | .seq _ b => backOf l b
  | _ => none
def tailOf (l : Nat) : Code → Option Code
  | .goto l' => bif Nat.beq l' l then some .skip else none
  | .seq a b => (tailOf l b).map (.seq a)
  | _ => none
def spine : An → Bool
  | .o => true
  | .s _ b => spine b
  | _ => false
def intp (P : Program) : An → Code → Env → World → (Env → World → Prop) → (Nat → Env → World → Prop) → (Env → World → Prop) → Prop
  | .j slots a, c, e, w, KN, KX, KR => joinN slots (writes c) e (fun k => intp P a c e w k KX KR) KN
  | .s a b, .seq x y, e, w, KN, KX, KR => intp P a x e w (fun e' w' => intp P b y e' w' KN KX KR) KX KR
  | .s a b, .cond c x y, e, w, KN, KX, KR => cnd (ev e c) (intp P a x e w KN KX KR) (intp P b y e w KN KX KR)
  | .b a, .block id x, e, w, KN, KX, KR => intp P a x e w KN (fun i e' w' => bif Nat.beq i id then KN e' w' else KX i e' w') KR
  | .l slots a, .loop x, e, w, KN, KX, KR => loopN slots (writes x) e w fun e' w' k => intp P a x e' w' k KX KR
  | .g l slots a b, .scope c, e, w, KN, KX, KR => (match headOf l c, (backOf l c).bind (tailOf l) with
    | some h, some r => intp P a h e w (fun e1 w1 => loopN slots (writes r) e1 w1 fun e' w' k => intp P b r e' w' k KX KR) KX KR
    | _, _ => False)
  | .r gs, .region _ ops false, e, w, KN, KX, KR => runOps P ops .plain ops.size gs (List.range ops.size) e w KN
  | .r gs, .region _ ops true, e, w, KN, KX, KR => drw w fun w => runOps P ops .quiet ops.size gs (List.range ops.size) e w KN
  | .d plan gs, .region _ ops true, e, w, KN, KX, KR => drH w fun S w => runOps P ops (.held S) ops.size gs plan e w KN
  | .dc plan cuts gs, .region _ ops true, e, w, KN, KX, KR => drH w fun S w => runOpsC P ops cuts ops.size S gs plan e w KN
  | .dt pl cuts slots, .region _ ops true, e, w, KN, KX, KR => drH w fun S w => joinN slots (writesOps ops (List.range ops.size)) e (fun k => runT P ops cuts pl S e w k) KN
  | .o, .skip, e, w, KN, KX, KR => KN e w
  | .o, .ret, e, w, KN, KX, KR => KR e w
  | .o, .exit i, e, w, KN, KX, KR => KX i e w
  | _, _, _, _, _, _, _ => False

/-! ### The closed look at the code -/
def chkOp (P : Program) (n : Nat) (o : Oper) : Bool :=
  (match o.dst with | some d => Nat.blt d n | none => true) && callOk P o.op && (match o.op with | .select .. => false | _ => true)
/-- A guard's slot is written by its own operation alone. -/
def guardOk (ops : Array Oper) (o : Oper) : Bool :=
  match o.guard with
  | none => true
  | some (j, _) => (match gslot ops j with
    | none => false
    | some d => (List.range ops.size).all fun i => Nat.beq i j || !(dstOf ops i == some d))
def selfOk (ops : Array Oper) (i : Nat) : Bool :=
  match ops[i]? with
  | some o => (match o.guard with | some (j, _) => !Nat.beq i j | none => true)
  | none => false
def chkOps (P : Program) (n : Nat) (ops : Array Oper) : Bool :=
  (List.range ops.size).all fun i => match ops[i]? with
    | some o => chkOp P n o && guardOk ops o && selfOk ops i
    | none => false
def planOk (P : Program) (ops : Array Oper) : List Nat → Array Bool → Bool
  | [], listed => (Region.ready .any ops listed).isEmpty
  | i :: l, listed =>
    (match ops[i]? with
      | some o => bif effOp P o.op then Region.ready .any ops listed == [i] else (Region.ready .any ops listed).contains i && Region.free .any ops listed i
      | none => false) && planOk P ops l (listed.setIfInBounds i true)
/-- Whether an operation looks at no world. -/
def stillOp (P : Program) : Op → Bool
  | .move _ | .assign _ | .pick .. | .nilCheck _ | .fieldAddr .. | .field .. | .extract .. | .indexAddr .. | .makeFunc .. => true
  | .binOp _ t _ _ _ => (match P.underlying t with | some (.int _) => true | _ => false)
  | .convert s d _ => (match P.underlying s, P.underlying d with | some (.int _), some (.int _) => true | _, _ => false)
  | .unOp .not _ _ => true
  | .slice t _ _ _ none => (match P.underlying t with | some (.slice _) => true | some (.array _ _) => true | _ => false)
  | .call ⟨.builtin .len, _, ts⟩ => (match ts.toList with | [t] => (match P.underlying t with | some (.slice _) => true | some .string => true | _ => false) | _ => false)
  | _ => false
theorem stillOp_cls {P : Program} {ρ : Operand → Value} {op : Op} {ty : TypeId} (h : stillOp P op = true) : ∀ f, cls P ρ op ty ≠ .read f := by
  intro f hf
  cases op with
  | binOp op t x y u =>
    simp only [stillOp] at h
    simp only [cls, cBin] at hf
    split at h
    · rename_i k hu
      rw [hu] at hf
      cases op <;> cases hf
    · cases h
  | unOp op t x =>
    cases op with
    | not => cases hf
    | _ => cases h
  | convert s d x =>
    simp only [stillOp] at h
    simp only [cls, cConv] at hf
    split at h
    · rename_i k j hs hd
      rw [hs, hd] at hf
      cases hf
    · cases h
  | fieldAddr s x k =>
    simp only [cls, cField] at hf
    split at hf <;> cases hf
  | field s x k =>
    simp only [cls, cFieldV] at hf
    split at hf <;> cases hf
  | indexAddr t x k =>
    simp only [cls, cIxA] at hf
    split at hf
    · split at hf <;> cases hf
    · split at hf <;> cases hf
    · cases hf
  | slice t x lo hi mx =>
    cases mx with
    | some m => cases h
    | none =>
      simp only [stillOp] at h
      simp only [cls, cSlice, Option.map_none] at hf
      split at h
      · rename_i e hu
        rw [hu] at hf
        simp only at hf
        split at hf <;> cases hf
      · rename_i e n hu
        rw [hu] at hf
        simp only at hf
        split at hf <;> cases hf
      · cases h
  | call c =>
    obtain ⟨callee, args, ts⟩ := c
    cases callee with
    | builtin b =>
      cases b with
      | len =>
        simp only [stillOp] at h
        simp only [cls, cCall, cBuiltin, cLen] at hf
        split at h
        · rename_i t ht
          rw [ht] at hf
          split at hf
          · rename_i x t' hx ht'
            cases ht'
            split at h
            · rename_i e hu; rw [hu] at hf; cases hf
            · rename_i hu; rw [hu] at hf; cases hf
            · cases h
          · cases hf
        · cases h
      | _ => cases h
    | _ => cases h
  | move x => cases hf
  | assign x => cases hf
  | pick c a b => cases hf
  | nilCheck x => cases hf
  | extract x i => cases hf
  | makeFunc fn first cap => cases hf
  | _ => cases h
def planOkC (P : Program) (ops : Array Oper) (cuts : List Nat) : List Nat → Array Bool → Bool
  | [], listed => (Region.ready .any ops listed).isEmpty
  | i :: l, listed =>
    (match ops[i]? with
      | some o => bif effOp P o.op then Region.ready .any ops listed == [i] else ((Region.ready .any ops listed).contains i && Region.free .any ops listed i) &&
          ((stillOp P o.op || cuts.all (fun c => listed.getD c false || needs .any ops i ops.size c)) && !(cuts.any (Nat.beq i)))
      | none => false) && planOkC P ops cuts l (listed.setIfInBounds i true)
def Pl.heads : Pl → List Nat
  | .alt i _ q => i :: q.heads
  | _ => []
def Pl.depth : Pl → Nat
  | .nil => 0
  | .step _ p => p.depth + 1
  | .br p => p.depth
  | .alt _ p q => Nat.max (p.depth + 1) q.depth
  | .non => 0
def planOkT (P : Program) (ops : Array Oper) (cuts : List Nat) : Pl → Array Bool → Bool
  | .nil, listed => (Region.ready .any ops listed).isEmpty
  | .step i p, listed =>
    (match ops[i]? with
      | some o => bif effOp P o.op then Region.ready .any ops listed == [i] else ((Region.ready .any ops listed).contains i && Region.free .any ops listed i) &&
          ((stillOp P o.op || cuts.all (fun c => listed.getD c false || needs .any ops i ops.size c)) && !(cuts.any (Nat.beq i)))
      | none => false) && planOkT P ops cuts p (listed.setIfInBounds i true)
  | .br p, listed => (!(Region.ready .any ops listed).isEmpty && (Region.ready .any ops listed).all (fun j => p.heads.any (Nat.beq j))) && planOkT P ops cuts p listed
  | .alt i p q, listed => ((Region.ready .any ops listed).contains i && planOkT P ops cuts p (listed.setIfInBounds i true)) && planOkT P ops cuts q listed
  | .non, _ => true
def Pl.isAlt : Pl → Bool
  | .alt .. => true
  | .non => true
  | _ => false
def Pl.good : Pl → Bool
  | .nil => true
  | .step _ p => !p.isAlt && p.good
  | .br p => p.isAlt && p.good
  | .alt _ p q => (!p.isAlt && p.good) && (q.isAlt && q.good)
  | .non => true
def chk (P : Program) (n : Nat) : An → Code → Bool
  | .j _ a, c => chk P n a c
  | .s a b, .seq x y => chk P n a x && chk P n b y
  | .s a b, .cond _ x y => chk P n a x && chk P n b y
  | .b a, .block _ x => chk P n a x
  | .l _ a, .loop x => chk P n a x
  | .g l _ a b, .scope c => spine a && spine b && (match headOf l c, (backOf l c).bind (tailOf l) with
    | some h, some r => chk P n a h && chk P n b r
    | _, _ => true)
  | .r _, .region _ ops false => chkOps P n ops
  | .r _, .region _ ops true => chkOps P n ops && planOk P ops (List.range ops.size) (Array.replicate ops.size false)
  | .d plan _, .region _ ops true => chkOps P n ops && (Nat.beq plan.length ops.size && planOk P ops plan (Array.replicate ops.size false)) && plan.all fun i => Nat.blt i ops.size
  | .dc plan cuts _, .region _ ops true => chkOps P n ops && (Nat.beq plan.length ops.size && planOkC P ops cuts plan (Array.replicate ops.size false)) && plan.all fun i => Nat.blt i ops.size
  | .dt pl cuts _, .region _ ops true => chkOps P n ops && ((planOkT P ops cuts pl (Array.replicate ops.size false) && (!pl.isAlt && pl.good)) && Nat.ble pl.depth ops.size)
  | _, _ => true

/-! ### Frames and their readings -/
structure Rel (n : Nat) (a : Act) (e : Env) : Prop where
  size : a.tmps.size = n
  get : ∀ t, a.tmps.getD t undef = e t
  dfr : a.defers = []
theorem Rel.eval {n : Nat} {a : Act} {e : Env} (h : Rel n a e) : a.eval = ev e := by
  funext x
  cases x with
  | tmp t => exact h.get t
  | _ => rfl
theorem Rel.put {n : Nat} {a : Act} {e : Env} (h : Rel n a e) (dst : Option Nat) (v : Value) (hd : ∀ d, dst = some d → d < n) : Rel n (a.put dst v) (updO e dst v) := by
  cases dst with
  | none => exact h
  | some d =>
    have hd := hd d rfl
    refine ⟨by simp [Act.put, h.size], fun t => ?_, h.dfr⟩
    have hg := h.get t
    have hs := h.size
    simp only [Act.put, updO, upd, Array.getD_eq_getD_getElem?, Array.getElem?_setIfInBounds] at hg ⊢
    by_cases ht : d = t
    · subst ht
      simp [hs, hd]
    · have hb : Nat.beq t d = false := by cases hb : Nat.beq t d with | false => rfl | true => exact absurd (Nat.eq_of_beq_eq_true hb).symm ht
      simp [ht, hb, hg]
theorem Rel.congr {n : Nat} {a : Act} {e e' : Env} (h : Rel n a e) (he : ∀ t, e t = e' t) : Rel n a e' := by
  rwa [show e = e' from funext he] at h
def Agree (W : List Nat) (e e' : Env) : Prop := ∀ t, t ∉ W → e' t = e t
theorem Agree.refl (W : List Nat) (e : Env) : Agree W e e := fun _ _ => rfl
theorem Agree.trans {W : List Nat} {a b c : Env} (h : Agree W a b) (k : Agree W b c) : Agree W a c := fun t ht => (k t ht).trans (h t ht)
theorem Agree.mono {W W' : List Nat} {a b : Env} (h : Agree W a b) (hs : ∀ t, t ∈ W → t ∈ W') : Agree W' a b := fun t ht => h t fun hm => ht (hs t hm)
theorem Agree.updO (e : Env) (dst : Option Nat) (v : Value) (W : List Nat) (h : ∀ d, dst = some d → d ∈ W) : Agree W e (updO e dst v) := by
  intro t ht
  cases dst with
  | none => rfl
  | some d => exact upd_ne e v fun he => ht (he ▸ h d rfl)
theorem any_beq (W : List Nat) (i : Nat) : W.any (Nat.beq i) = true ↔ i ∈ W := by
  rw [List.any_eq_true]
  exact ⟨fun ⟨x, hx, h⟩ => (Nat.eq_of_beq_eq_true h) ▸ hx, fun h => ⟨i, h, Nat.beq_refl i⟩⟩
theorem junkify_self {W : List Nat} {e e' : Env} (h : Agree W e e') (t : Nat) : junkify W e' e t = e' t := by
  unfold junkify
  cases hw : W.any (Nat.beq t) with
  | true => rfl
  | false => exact (h t fun hm => by rw [(any_beq W t).2 hm] at hw; cases hw).symm
theorem upd_self {f e' : Env} (h : ∀ t, f t = e' t) (a : Nat) (t : Nat) : upd f a (e' a) t = e' t := by
  unfold upd
  cases hb : Nat.beq t a with
  | true => rw [Nat.eq_of_beq_eq_true hb]; rfl
  | false => exact h t
theorem agree_junkify (W : List Nat) (junk e : Env) : Agree W e (junkify W junk e) := by
  intro t ht
  unfold junkify
  cases hw : W.any (Nat.beq t) with
  | true => exact absurd ((any_beq W t).1 hw) ht
  | false => rfl
end Go.Fx
