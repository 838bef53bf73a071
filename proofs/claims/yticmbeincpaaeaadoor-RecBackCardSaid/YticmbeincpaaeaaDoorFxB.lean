/-
  Each operation's reading is sound: the model's run of it is what the reading says.
-/
import Derived.Test.YticmbeincpaaeaaDoorFxA
import Derived.WalkSpells
set_option linter.unusedVariables false
namespace Go.Fx
section
variable {P : Program} {ρ : Operand → Value} {o : Oper}

theorem ok_load {t : TypeId} {a : Operand} (ho : o.op = .load t a) : ClsOk P ρ o (cLoad P t (ρ a)) := by
  unfold cLoad
  cases ha : aggr P t with
  | none => exact clsOk_bad
  | some b =>
    cases b with
    | false =>
      refine readOk_of ?_
      rintro w K ⟨g, off, cur, ty, fr, v, hp, hg, hv, hk⟩
      refine ⟨v, hk, ?_⟩
      have hc : w.cell? ⟨g, off, none⟩ = some v := by simp [World.cell?, hg, hv]
      unfold execOp
      simp [ho, hp, Instr.loadAt, Instr.sureAddr, loadVar, run_isAgg ha, hc]
    | true =>
      cases hs : size? P t with
      | none => exact clsOk_bad
      | some n =>
        refine readOk_of ?_
        rintro w K ⟨g, off, cur, ty, fr, hp, hg, hn, hk⟩
        refine ⟨_, hk, ?_⟩
        unfold execOp
        simp [ho, hp, Instr.loadAt, Instr.sureAddr, loadVar, run_isAgg ha, run_sizeOf hs, loadCells_ext hg hn]

theorem ok_store {t : TypeId} {a x : Operand} (ho : o.op = .store t a x) : ClsOk P ρ o (cStore P t (ρ a) (ρ x)) := by
  unfold cStore
  cases hs : size? P t with
  | none => exact clsOk_bad
  | some n =>
    cases ha : aggr P t with
    | none => exact clsOk_bad
    | some b =>
      cases b with
      | false =>
        show ClsOk P ρ o (bif Nat.beq n 1 then _ else _)
        cases hn : Nat.beq n 1 with
        | false => exact clsOk_bad
        | true =>
          obtain rfl := Nat.eq_of_beq_eq_true hn
          refine effOk_unit ?_
          rintro w K ⟨g, off, cur, ty, hp, hg, ho', hv, hk⟩
          refine ⟨_, hk, ?_⟩
          have hc : w.cell? ⟨g, off, none⟩ = some cur[off] := by simp [World.cell?, hg, ho']
          have hf : w.frozen? ⟨g, off, none⟩ = false := by simp [World.frozen?, hg]
          have hcs : (ρ x).cells = #[ρ x] := by cases hx : ρ x <;> simp_all [Value.cells, Value.oneCell']
          have hst : (store ⟨g, off, none⟩ (ρ x)).run P w = .ok () (setBlk w g (.cells (cur.setIfInBounds off (ρ x)) ty (0, 0))) := by
            rw [run_store P w _ _ _ hv, hc]; simp [hf, setCell_setBlk w g off cur ty (0, 0) _ hg]
          unfold execOp
          simp [ho, hp, Instr.storeAt, Instr.sureAddr, storeVar, run_sizeOf hs, hcs, storeCells, Addr_add_mk, hst]
      | true =>
        refine effOk_unit ?_
        rintro w K ⟨g, off, cur, ty, cs, hp, hv, hn, hg, hfit, h1, hk⟩
        refine ⟨_, hk, ?_⟩
        have hst := run_storeCells_at P g off ty cs.toList 0 cur w hg (by simp; omega) h1
        simp only [Nat.add_zero] at hst
        rw [setRow_setBlk w g cur _ ty (0, 0) hg] at hst
        unfold execOp
        simp [ho, hp, hv, Instr.storeAt, Instr.sureAddr, storeVar, run_sizeOf hs, Value.cells, hn, hst, splice]

theorem ok_pure_move {x : Operand} (ho : o.op = .move x) : ClsOk P ρ o (.pure fun K => K (ρ x)) :=
  pureOk_of fun K hk => ⟨_, hk, fun w => by unfold execOp; simp [ho]⟩
theorem ok_pure_assign {x : Operand} (ho : o.op = .assign x) : ClsOk P ρ o (.pure fun K => K (ρ x)) :=
  pureOk_of fun K hk => ⟨_, hk, fun w => by unfold execOp; simp [ho]⟩
theorem ok_pick {c a b : Operand} (ho : o.op = .pick c a b) : ClsOk P ρ o (.pure (pik (ρ c) (ρ a) (ρ b))) := by
  refine pureOk_of ?_
  rintro K ⟨t, hc, hk⟩
  refine ⟨_, hk, fun w => ?_⟩
  unfold execOp
  cases t <;> simp [ho, hc, asBool]
theorem ok_nilc {x : Operand} (ho : o.op = .nilCheck x) : ClsOk P ρ o (.pure (nilc (ρ x))) := by
  refine pureOk_of ?_
  rintro K ⟨⟨a, ha⟩, hk⟩
  refine ⟨_, hk, fun w => ?_⟩
  unfold execOp
  simp [ho, ha]
theorem fieldOff_spec {s : TypeId} {f off n : Nat} {b : Bool} (h : fieldOff P s f = some (off, n, b)) :
    ∃ fs fd, P.underlying s = some (.struct fs) ∧ fs[f]? = some fd ∧ fd.offset = off ∧ size? P fd.type = some n ∧ aggr P fd.type = some b ∧ 0 < n := by
  unfold fieldOff at h
  split at h
  · rename_i fs hu
    split at h
    · rename_i fd hfd
      split at h
      · rename_i m hs
        split at h
        · rename_i b' ha
          cases hm : Nat.beq m 0 with
          | true => simp [hm] at h
          | false =>
            simp only [hm, cond_false, Option.some.injEq, Prod.mk.injEq] at h
            obtain ⟨rfl, rfl, rfl⟩ := h
            exact ⟨fs, fd, hu, hfd, rfl, hs, ha, Nat.pos_of_ne_zero fun h0 => by subst h0; simp at hm⟩
        · cases h
      · cases h
    · cases h
  · cases h
theorem ok_fieldAddr {s : TypeId} {x : Operand} {f : Nat} (ho : o.op = .fieldAddr s x f) : ClsOk P ρ o (cField P s f (ρ x)) := by
  unfold cField
  cases hf : fieldOff P s f with
  | none => exact clsOk_bad
  | some r =>
    obtain ⟨off, n, b⟩ := r
    obtain ⟨fs, fd, hu, hfd, rfl, hs, ha, hn⟩ := fieldOff_spec hf
    refine pureOk_of ?_
    rintro K ⟨g, o', hp, hk⟩
    refine ⟨_, hk, fun w => ?_⟩
    have hn0 : ¬ n = 0 := by omega
    unfold execOp
    simp [ho, hp, Instr.fieldAt, run_underlying hu, hfd, Instr.sureAddr, fieldPlace, run_sizeOf hs, hn0, Addr_add_mk]
theorem run_part {t : TypeId} {n off : Nat} {b : Bool} (hs : size? P t = some n) (ha : aggr P t = some b) {cs : Array Value} {K : Value → Prop} (h : cellOf b cs off n K) :
    ∃ v, K v ∧ ∀ w, (part t cs off).run P w = .ok v w := by
  unfold cellOf at h
  unfold part
  cases b with
  | true =>
    obtain ⟨hn, hk⟩ := h
    exact ⟨_, hk, fun w => by simp [run_isAgg ha, run_sizeOf hs]⟩
  | false =>
    obtain ⟨v, hv, hk⟩ := h
    exact ⟨_, hk, fun w => by simp [run_isAgg ha, hv]⟩
theorem ok_field {t : TypeId} {x : Operand} {f : Nat} (ho : o.op = .field t x f) : ClsOk P ρ o (cFieldV P t f (ρ x)) := by
  unfold cFieldV
  cases hf : fieldOff P t f with
  | none => exact clsOk_bad
  | some r =>
    obtain ⟨off, n, b⟩ := r
    obtain ⟨fs, fd, hu, hfd, rfl, hs, ha, hn⟩ := fieldOff_spec hf
    refine pureOk_of ?_
    rintro K ⟨cs, hx, hc⟩
    obtain ⟨v, hk, hr⟩ := run_part hs ha hc
    refine ⟨v, hk, fun w => ?_⟩
    unfold execOp
    simp [ho, hx, Instr.field, run_underlying hu, hfd, asAgg, hr]
theorem ok_index {t : TypeId} {x i : Operand} (ho : o.op = .index t x i) : ClsOk P ρ o (cIx P t (ρ x) (ρ i)) := by
  have gen : ClsOk P ρ o (.read (rdP P (Instr.index t (ρ x) (ρ i)))) := readOk_val fun w => by unfold execOp; simp [ho]
  unfold cIx
  cases hu : P.underlying t with
  | none => exact gen
  | some d =>
    cases d with
    | array len e =>
      dsimp only
      cases hs : size? P e with
      | none => exact clsOk_bad
      | some n =>
        dsimp only
        cases ha : aggr P e with
        | none => exact clsOk_bad
        | some b =>
          refine pureOk_of ?_
          rintro K ⟨cs, k, j, hx, hi, h0, h1, hc⟩
          obtain ⟨v, hk, hr⟩ := run_part hs ha hc
          refine ⟨v, hk, fun w => ?_⟩
          unfold execOp
          simp [ho, hx, hi, Instr.index, asIntOf, run_underlying hu, h0, h1, run_sizeOf hs, hr]
    | _ => exact gen
theorem isNil_one {y : Operand} (h : isNil y = 1) (hc : ∀ v, ρ (.const v) = v) : ρ y = .pointer none := by
  unfold isNil at h
  split at h <;> first | exact hc _ | cases h
theorem isNil_two {y : Operand} (h : isNil y = 2) (hc : ∀ v, ρ (.const v) = v) : ρ y = .slice none 0 0 := by
  unfold isNil at h
  split at h <;> first | exact hc _ | cases h
theorem ok_bin {op : BinOp} {t u : TypeId} {x y : Operand} (ho : o.op = .binOp op t x y u) (hc : ∀ v, ρ (.const v) = v) :
    ClsOk P ρ o (cBin P op t (isNil y) (ρ x) (ρ y) (eqS op t x y (ρ x) (ρ y))) := by
  unfold eqS
  have gen : ClsOk P ρ o (.read (rdP P (do eqGuard op t x y (ρ x) (ρ y); binOp op t (ρ x) (ρ y)))) := readOk_val fun w => by unfold execOp; simp [ho, andThen_assoc]
  have hsh : op = .shl ∨ op = .shr → ClsOk P ρ o (.pure (sh op (ρ x) (ρ y))) := by
    intro hop
    refine pureOk_of ?_
    rintro K ⟨k, j, a, b, v, hx, hy, hv, hk⟩
    refine ⟨v, hk, fun w => ?_⟩
    unfold shv at hv
    unfold execOp
    by_cases hb : b < 0
    · simp [hb] at hv
    · rcases hop with rfl | rfl <;> simp [hb] at hv <;> subst hv <;> simp [ho, hx, hy, eqGuard, binOp, Op.shift, hb]
  have hbi : op ≠ .shl → op ≠ .shr → ClsOk P ρ o (.pure (bi op (ρ x) (ρ y))) := by
    intro hn1 hn2
    refine pureOk_of ?_
    rintro K ⟨k, a, b, v, hx, hy, hv, hk⟩
    refine ⟨v, hk, fun w => ?_⟩
    unfold biv at hv
    unfold execOp
    cases op <;> simp at hv hn1 hn2 <;> first
      | (obtain ⟨h1, h2⟩ := hv; subst h2; simp [ho, hx, hy, eqGuard, binOp, Op.intDiv, h1]; done)
      | (subst hv; simp [ho, hx, hy, eqGuard, binOp, Op.intArith, Op.intBits, Op.intCmp]; done)
  unfold cBin
  cases hu : P.underlying t with
  | none => exact gen
  | some d =>
    cases d with
    | int k =>
      cases op with
      | shl => exact hsh (.inl rfl)
      | shr => exact hsh (.inr rfl)
      | _ => exact hbi (by simp) (by simp)
    | pointer e =>
      dsimp only
      cases hn : Nat.beq (isNil y) 1 with
      | false => exact gen
      | true =>
        have hy := isNil_one (Nat.eq_of_beq_eq_true hn) hc
        have hp : P.pointee t = e := by simp [Program.pointee, hu]
        rw [← hp] at hu
        cases op with
        | eql =>
          refine pureOk_of ?_
          rintro K ⟨p, hx, hk⟩
          refine ⟨_, hk, fun w => ?_⟩
          unfold execOp
          simp [ho, hx, hy, eqGuard, run_eql_pointer_nil w t p hu]
        | neq =>
          refine pureOk_of ?_
          rintro K ⟨p, hx, hk⟩
          refine ⟨_, hk, fun w => ?_⟩
          unfold execOp
          simp [ho, hx, hy, eqGuard, run_neq_pointer_nil w t p hu]
        | _ => exact gen
    | slice e =>
      dsimp only
      cases hn : Nat.beq (isNil y) 2 with
      | false => exact gen
      | true =>
        have hy := isNil_two (Nat.eq_of_beq_eq_true hn) hc
        cases op with
        | eql =>
          refine pureOk_of ?_
          rintro K ⟨a, n, c, hx, hk⟩
          refine ⟨_, hk, fun w => ?_⟩
          unfold execOp
          simp [ho, hx, hy, eqGuard, Lib.run_eql_slice_nil w t e a n c 0 0 hu]
        | neq =>
          refine pureOk_of ?_
          rintro K ⟨a, n, c, hx, hk⟩
          refine ⟨_, hk, fun w => ?_⟩
          unfold execOp
          simp only [ho, hx, hy, eqGuard, binOp]
          simp [Op.equal, Op.maxDepth, Lib.run_equalIn_slice_nil w 9999 t e a n c 0 0 hu]
        | _ => exact gen
    | _ => exact gen
theorem ok_un {op : UnOp} {t : TypeId} {x : Operand} (ho : o.op = .unOp op t x) : ClsOk P ρ o (cUn P op (ρ x)) := by
  unfold cUn
  cases op with
  | not =>
    refine pureOk_of ?_
    rintro K ⟨b, hx, hk⟩
    refine ⟨_, hk, fun w => ?_⟩
    unfold execOp
    simp [ho, hx, Op.unary]
  | _ => exact readOk_val fun w => by unfold execOp; simp [ho]
theorem ok_conv {s d : TypeId} {x : Operand} (ho : o.op = .convert s d x) : ClsOk P ρ o (cConv P s d (ρ x)) := by
  have gen : ClsOk P ρ o (.eff (efP P (convert s d (ρ x)))) := effOk_val fun w => by unfold execOp; simp [ho]
  unfold cConv
  split
  · rename_i j k hs hd
    refine pureOk_of ?_
    rintro K ⟨j', n, hx, hk⟩
    refine ⟨_, hk, fun w => ?_⟩
    unfold execOp
    simp [ho, hx, convert, run_underlying hs, run_underlying hd, Conv.intToInt]
  · exact readOk_val fun w => by unfold execOp; simp [ho]
  · exact gen
theorem ok_ixA {t : TypeId} {x i : Operand} (ho : o.op = .indexAddr t x i) : ClsOk P ρ o (cIxA P t (ρ x) (ρ i)) := by
  unfold cIxA
  split
  · rename_i e hu
    split
    · rename_i n hs
      refine pureOk_of ?_
      rintro K ⟨g, off, m, c, k, j, hx, hi, h0, h1, hk⟩
      refine ⟨_, hk, fun w => ?_⟩
      unfold execOp
      simp [ho, hx, hi, Instr.indexAt, asIntOf, run_underlying hu, run_sizeOf hs, h0, h1, Addr_add_mk]
    · exact clsOk_bad
  · rename_i len e hu
    split
    · rename_i n hs
      refine pureOk_of ?_
      rintro K ⟨g, off, k, j, hx, hi, h0, h1, hk⟩
      refine ⟨_, hk, fun w => ?_⟩
      unfold execOp
      simp [ho, hx, hi, Instr.indexAt, asIntOf, Instr.sureAddr, run_underlying hu, run_sizeOf hs, h0, h1, Addr_add_mk]
    · exact clsOk_bad
  · exact clsOk_bad
theorem ok_extract {x : Operand} {i : Nat} (ho : o.op = .extract x i) : ClsOk P ρ o (.pure (ext i (ρ x))) := by
  refine pureOk_of ?_
  rintro K ⟨vs, v, hx, hv, hk⟩
  refine ⟨_, hk, fun w => ?_⟩
  unfold execOp
  simp [ho, hx, Instr.extract, hv]
theorem run_bnd {x : Value} {most : Nat} {K : Nat → Prop} (h : bnd x most K) (code : BoundsCode) : ∃ m, K m ∧ ∀ w, (Instr.sliceBound x most code).run P w = .ok m w := by
  obtain ⟨k, j, rfl, h0, h1, hk⟩ := h
  exact ⟨_, hk, fun w => run_sliceBound w k j most code h0 h1⟩
theorem run_bounds {isS : Bool} {len cap : Nat} {lo hi : Option Value} {K : Nat → Nat → Prop} (h : bndO hi cap len fun h => bndO lo h 0 fun l => K l h) :
    ∃ l h, K l h ∧ ∀ w, (Instr.sliceBounds isS len cap lo hi none).run P w = .ok (l, h, cap) w := by
  have hlo : ∀ hh, bndO lo hh 0 (fun l => K l hh) → ∃ l, K l hh ∧ ∀ w, ((match lo with
      | some v => Instr.sliceBound v hh (if (none : Option Value).isSome then .slice3C else .sliceB)
      | none => pure 0) : Sem Nat).run P w = .ok l w := by
    intro hh h
    cases lo with
    | none => exact ⟨0, h, fun w => rfl⟩
    | some v => exact run_bnd (P := P) (x := v) (most := hh) (K := fun l => K l hh) h _
  cases hi with
  | none =>
    obtain ⟨l, hk, hr⟩ := hlo _ h
    refine ⟨l, len, hk, fun w => ?_⟩
    have := hr w
    cases lo <;> simp_all [Instr.sliceBounds]
  | some v =>
    obtain ⟨hh, h2, hr2⟩ := run_bnd (P := P) (x := v) (most := cap) (K := fun h => bndO lo h 0 fun l => K l h) h (if isS then .sliceAcap else .sliceAlen)
    obtain ⟨l, hk, hr⟩ := hlo _ h2
    refine ⟨l, hh, hk, fun w => ?_⟩
    have := hr w
    have := hr2 w
    cases lo <;> simp_all [Instr.sliceBounds]
theorem ok_slice {t : TypeId} {x : Operand} {lo hi mx : Option Operand} (ho : o.op = .slice t x lo hi mx) : ClsOk P ρ o (cSlice P t (ρ x) (lo.map ρ) (hi.map ρ) (mx.map ρ)) := by
  have gen : ClsOk P ρ o (.read (rdP P (Instr.sliceAt t (ρ x) (lo.map ρ) (hi.map ρ) (mx.map ρ)))) := readOk_val fun w => by unfold execOp; simp [ho]
  cases mx with
  | some m => exact gen
  | none =>
    unfold cSlice
    simp only [Option.map_none]
    split
    · rename_i e hu
      split
      · rename_i n hs
        refine pureOk_of ?_
        rintro K ⟨a, m, c, hx, hb⟩
        obtain ⟨l, h, hk, hr⟩ := run_bounds (P := P) (isS := true) hb
        refine ⟨_, hk, fun w => ?_⟩
        unfold execOp
        simp only [ho, hx, Instr.sliceAt, Instr.slice, Sem.run_bind, run_underlying hu, Result.andThen_ok, run_sizeOf hs, Option.map_none, hr]
        rfl
      · exact clsOk_bad
    · rename_i len e hu
      split
      · rename_i n hs
        refine pureOk_of ?_
        rintro K ⟨a, hx, hb⟩
        obtain ⟨l, h, hk, hr⟩ := run_bounds (P := P) (isS := false) hb
        refine ⟨_, hk, fun w => ?_⟩
        unfold execOp
        simp only [ho, hx, Instr.sliceAt, Instr.sureAddr, Sem.run_bind, run_underlying hu, Result.andThen_ok, run_sizeOf hs, Option.map_none, hr, Sem.run_pure]
      · exact clsOk_bad
    · exact gen
theorem ok_box {t : TypeId} {x : Operand} (ho : o.op = .box t x) : ClsOk P ρ o (.eff (bx t (ρ x))) := by
  refine effOk_of ?_
  intro w K hk
  refine ⟨_, _, hk, ?_⟩
  unfold execOp
  simp [ho, Instr.box, newVar, newRow]
theorem ok_len {ty : TypeId} {args : Array Operand} {ts : Array TypeId} (ho : o.op = .call { callee := .builtin .len, args := args, argTypes := ts }) :
    ClsOk P ρ o (cLen P o.type (args.toList.map ρ) ts.toList) := by
  have hrun : ∀ w, (execOp ρ o).run P w = ((Builtin.len_ ts o.type (args.toList.map ρ).toArray).run P w).andThen fun v w' => .ok (.value v) w' := fun w => by
    unfold execOp; simp [ho, resolve, invoke, builtin, toArray_map]
  unfold cLen
  split
  · rename_i x t hx ht
    have e1 : (args.toList.map ρ).toArray = #[x] := by rw [hx]
    have e2 : ts = #[t] := by apply Array.ext'; simp [ht]
    split
    · rename_i e hu
      refine pureOk_of ?_
      rintro K ⟨a, n, c, rfl, hk⟩
      refine ⟨_, hk, fun w => ?_⟩
      rw [hrun, e1, e2]
      simp [Builtin.len_, run_underlying hu, goInt]
    · rename_i hu
      refine pureOk_of ?_
      rintro K ⟨s, rfl, hk⟩
      refine ⟨_, hk, fun w => ?_⟩
      rw [hrun, e1, e2]
      simp [Builtin.len_, run_underlying hu, goInt]
    · exact readOk_val fun w => by rw [hrun, e1, e2]
  · exact clsOk_bad
theorem ok_call {c : Call} (ho : o.op = .call c) (hc : callOk P o.op = true) (hf : ∀ f, ρ (.func f) = .func (.func f) #[] #[]) : ClsOk P ρ o (cCall P ρ o.type c) := by
  obtain ⟨callee, args, ts⟩ := c
  unfold cCall
  cases callee with
  | invoke r m => exact clsOk_bad
  | builtin b =>
    have hrun : ∀ w, (execOp ρ o).run P w = (((builtin b ts o.type (args.map fun | .const _ => true | _ => false) (args.toList.map ρ).toArray)).run P w) := fun w => by
      unfold execOp; simp only [ho, resolve, invoke, toArray_map]; rfl
    cases b with
    | len => exact ok_len (ty := o.type) ho
    | cap => exact readOk_val fun w => by rw [hrun]; simp [builtin]
    | append => exact effOk_val fun w => by rw [hrun]; simp [builtin]
    | copy => exact effOk_val fun w => by rw [hrun]; simp [builtin]
    | min => exact readOk_val fun w => by rw [hrun]; simp [builtin]
    | max => exact readOk_val fun w => by rw [hrun]; simp [builtin]
    | delete => exact effOk_val fun w => by rw [hrun]; simp [builtin]
    | clear => exact effOk_val fun w => by rw [hrun]; simp [builtin]
    | _ => exact clsOk_bad
  | value g =>
    have hV : ClsOk P ρ o (.eff (calV P (ρ g) (args.toList.map ρ))) := by
      rintro w K ⟨f, first, cap, hg, hcal, hk⟩
      refine .inr ⟨f, _, ?_, hk⟩
      unfold execOp
      simp only [ho, resolve, hg, Deferred.ofValue, invoke, Sem.run_bind, Sem.run_pure, Result.andThen_ok, run_callFunc hcal, toArray_map]
    cases g with
    | func f =>
      dsimp only
      cases hcal : callable P f with
      | true =>
        rintro w K hk
        refine .inr ⟨f, (args.toList.map ρ).toArray, ?_, hk⟩
        unfold execOp
        simp only [ho, resolve, hf, Deferred.ofValue, invoke, Sem.run_bind, Sem.run_pure, Result.andThen_ok, run_callFunc hcal, toArray_map]
        simp
      | false =>
        refine effOk_of ?_
        rintro w K ⟨v, w', hr, hk⟩
        refine ⟨v, w', hk, ?_⟩
        rw [← hr]
        unfold execOp
        simp only [ho, resolve, hf, Deferred.ofValue, invoke, Sem.run_bind, Sem.run_pure, Result.andThen_ok, toArray_map]
        simp
    | _ => exact hV

theorem partsOf_eq (parts : Array (Nat × Operand)) : (parts.map fun (i, x) => (i, ρ x)) = partsOf ρ parts := by apply Array.ext'; simp [partsOf]
theorem ok_build {t : TypeId} {parts : Array (Nat × Operand)} (ho : o.op = .build t parts) : ClsOk P ρ o (.read (rdP P (Instr.build t (partsOf ρ parts)))) := by
  refine readOk_val fun w => ?_
  rw [← partsOf_eq]
  unfold execOp
  simp [ho]
theorem ok_buildSlice {t n : Nat} {parts : Array (Nat × Operand)} (ho : o.op = .buildSlice t n parts) : ClsOk P ρ o (.eff (efP P (Instr.buildSlice t n (partsOf ρ parts)))) := by
  refine effOk_val fun w => ?_
  rw [← partsOf_eq]
  unfold execOp
  simp [ho]
theorem cls_ok (hc : ∀ v, ρ (.const v) = v) (hf : ∀ f, ρ (.func f) = .func (.func f) #[] #[]) (h : callOk P o.op = true) : ClsOk P ρ o (cls P ρ o.op o.type) := by
  cases ho : o.op with
  | move x => exact ok_pure_move ho
  | assign x => exact ok_pure_assign ho
  | pick c a b => exact ok_pick ho
  | nilCheck x => exact ok_nilc ho
  | fieldAddr s x f => exact ok_fieldAddr ho
  | load t a => exact ok_load ho
  | store t a x => exact ok_store ho
  | binOp op t x y u => exact ok_bin ho hc
  | unOp op t x => exact ok_un ho
  | convert s d x => exact ok_conv ho
  | indexAddr t x i => exact ok_ixA ho
  | field t x f => exact ok_field ho
  | index t x i => exact ok_index ho
  | extract x i => exact ok_extract ho
  | slice t x lo hi mx => exact ok_slice ho
  | box t x => exact ok_box ho
  | alloc t => exact effOk_val fun w => by unfold execOp; simp [ho]
  | build t parts => exact ok_build ho
  | buildSlice t n parts => exact ok_buildSlice ho
  | makeFunc fn first cap => exact pureOk_of fun K hk => ⟨_, hk, fun w => by unfold execOp; simp [ho, Instr.makeFunc, toArray_map]⟩
  | makeSlice t l c => exact effOk_val fun w => by unfold execOp; simp [ho]
  | makeMap t r => exact effOk_val fun w => by unfold execOp; simp [ho]
  | lookup t x i k => exact readOk_val fun w => by unfold execOp; simp [ho]
  | mapUpdate t m k x => exact effOk_u fun w => by unfold execOp; simp [ho]
  | insert t m k x => exact effOk_u fun w => by unfold execOp; simp [ho]
  | mapEntry t m k => exact effOk_val fun w => by unfold execOp; simp [ho]
  | entryStore t m s x => exact effOk_u fun w => by unfold execOp; simp [ho]
  | range t x => exact effOk_val fun w => by unfold execOp; simp [ho]
  | next it s => exact effOk_val fun w => by unfold execOp; simp [ho]
  | makeInterface t x => exact readOk_val fun w => by unfold execOp; simp [ho]
  | typeAssert x t u k => exact readOk_val fun w => by unfold execOp; simp [ho]
  | sliceToArrayPointer t x => exact readOk_val fun w => by unfold execOp; simp [ho]
  | call c => exact ok_call ho h hf
  | _ => exact clsOk_bad
end
end Go.Fx
