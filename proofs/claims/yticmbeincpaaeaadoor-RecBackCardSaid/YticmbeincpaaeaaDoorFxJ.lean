/-
  More on slices: make, copy; bytes and texts; what a closed run gives.
-/
import Derived.Test.YticmbeincpaaeaaDoorFxI
set_option linter.unusedVariables false
set_option linter.unusedSimpArgs false
namespace Go.Fx
theorem efP_run {P : Program} {s : Sem Value} {w w' : World} {v : Value} {K : Value → World → Prop} (hr : s.run P w = .ok v w') (h : K v w') : efP P s w K := ⟨v, w', hr, h⟩
theorem rdP_run {P : Program} {s : Sem Value} {w : World} {v : Value} {K : Value → Prop} (hr : s.run P w = .ok v w) (h : K v) : rdP P s w K := ⟨v, hr, h⟩
theorem rdP_eq {P : Program} {s : Sem Value} {w : World} {v : Value} (hr : s.run P w = .ok v w) (K : Value → Prop) : rdP P s w K = K v :=
  propext ⟨fun ⟨v', hr', hk⟩ => by rw [hr] at hr'; cases hr'; exact hk, fun h => ⟨v, hr, h⟩⟩
theorem slice_i {P : Program} {s : Sem Value} {w : World} {cs : List Value} {E n : Nat} {K : Value → World → Prop}
    (hr : s.run P w = .ok (.slice (some ⟨w.heap.size, 0, none⟩) n n) (w.alloc (.cells cs.toArray E)))
    (h : ∀ w' g, g = w.heap.size → w'.heap[g]? = some (.cells cs.toArray E (0, 0)) → Fr [] w w' → K (.slice (some ⟨g, 0, none⟩) n n) w') : efP P s w K :=
  ⟨_, _, hr, h _ _ rfl (alloc_new w _) (fr_alloc w _)⟩
theorem Own.of_blk {h : Heap} {g n size E : Nat} {cs : List Value} (hg : h[g]? = some (.cells cs.toArray E (0, 0))) (hl : cs.length = n * size) : Own h (.slice (some ⟨g, 0, none⟩) n n) size n cs [g] :=
  ⟨hl, .inr ⟨g, 0, n, cs.toArray, E, rfl, Nat.le_refl _, hg, by simp [hl], by simp [← hl], rfl⟩⟩

/-! ### Bytes -/
def bv (b : UInt8) : Value := .int .u8 b.toNat
def bvs (l : List UInt8) : List Value := l.map bv
theorem bvs_length (l : List UInt8) : (bvs l).length = l.length := by simp [bvs]
theorem bvs_append (l m : List UInt8) : bvs (l ++ m) = bvs l ++ bvs m := by simp [bvs]
theorem bvs_one (l : List UInt8) : ∀ u ∈ bvs l, u.oneCell' = true := by
  intro u hu
  obtain ⟨b, _, rfl⟩ := List.mem_map.1 hu
  rfl
/-- A slice reads as bytes. -/
def RdB (h : Heap) (v : Value) (l : List UInt8) : Prop := Cel h v 1 l.length (bvs l)
/-- A slice of bytes that the call owns. -/
def OwnB (h : Heap) (v : Value) (l : List UInt8) (F : List Nat) : Prop := Own h v 1 l.length (bvs l) F
theorem OwnB.rd {h : Heap} {v : Value} {l : List UInt8} {F : List Nat} (ho : OwnB h v l F) : RdB h v l := ho.cel
theorem RdB.fr {F : List Nat} {w w' : World} {v : Value} {l : List UInt8} (h : RdB w.heap v l) (hf : Fr F w w') (ho : Off v F) : RdB w'.heap v l := Cel.fr h hf ho
theorem OwnB.fr {F G : List Nat} {w w' : World} {v : Value} {l : List UInt8} (h : OwnB w.heap v l F) (hf : Fr G w w') (hd : ∀ k ∈ F, k ∉ G) : OwnB w'.heap v l F := Own.fr h hf hd
theorem OwnB.nil (h : Heap) : OwnB h (.slice none 0 0) [] [] := Own.nil h 1
theorem RdB.nil (h : Heap) (c : Nat) : RdB h (.slice none 0 c) [] := ⟨none, c, rfl, by simp [bvs], .inl (by simp)⟩
theorem RdB.len {h : Heap} {v : Value} {l : List UInt8} (hr : RdB h v l) (K : Value → Prop) : lenS v K = K (.int .i64 l.length) := by
  obtain ⟨a, c, rfl, _⟩ := hr
  exact lenS_mk a _ c K
theorem off_nil (v : Value) : Off v [] := fun _ _ _ _ _ _ => by simp
theorem RdB.lt {h : Heap} {v : Value} {l : List UInt8} (hr : RdB h v l) : ∀ g o n c, v = .slice (some ⟨g, o, none⟩) n c → n ≠ 0 → g < h.size := by
  obtain ⟨a, c, rfl, hl, hh⟩ := hr
  intro g o n c' he hn
  cases he
  rcases hh with h0 | ⟨g', o', cur, t, fr, ha, hg, hcs⟩
  · omega
  · cases ha
    exact lt_of_blk hg
theorem RdB.off {h : Heap} {v : Value} {l : List UInt8} (hr : RdB h v l) {F : List Nat} (hF : ∀ k ∈ F, h.size ≤ k) : Off v F := fun g o n c he hn hm => by
  have h1 := hr.lt g o n c he hn
  have h2 := hF g hm
  omega
/-- 'append(s, x...)' on bytes. -/
theorem appB {P : Program} {t tx ty E : Nat} {d : TypeDesc} {w : World} {s x : Value} {l m : List UInt8} {F : List Nat} {K : Value → World → Prop}
    (hT : SlT P t E 1 1) (hx : P.underlying tx = some d) (hd : ∀ k, d ≠ .int k) (ho : OwnB w.heap s l F) (hn : RdB w.heap x m) (hb : l.length + m.length ≤ 140737488355328)
    (h : ∀ v' w' F', OwnB w'.heap v' (l ++ m) F' → Fr F w w' → Grew w F F' → K v' w') : efP P (Builtin.append_ #[t, tx] ty #[s, x]) w K := by
  refine app_own hT hx hd ho hn (bvs_one m) (by omega) (by omega) fun v' w' F' h1 h2 h3 => h v' w' F' ?_ h2 h3
  unfold OwnB
  rw [bvs_append, List.length_append]
  exact h1
theorem madeCells_one (z : Value) (n : Nat) : madeCells #[z] n = (List.replicate n z).toArray := by
  apply Array.ext
  · simp [madeCells]
  · intro i h1 h2
    simp [madeCells, Nat.mod_one]
/-- 'make([]byte, n)'. -/
theorem mkB {P : Program} {t E : Nat} {k k' : IntKind} {n : Nat} {w : World} {K : Value → World → Prop} (hT : SlT P t E 1 1) (hz : zc P E = #[.int .u8 0]) (hn : n ≤ 281474976710656)
    (h : ∀ w' g, g = w.heap.size → OwnB w'.heap (.slice (some ⟨g, 0, none⟩) n n) (List.replicate n 0) [g] → Fr [] w w' → K (.slice (some ⟨g, 0, none⟩) n n) w') :
    efP P (Instr.makeSlice t (.int k n) (.int k' n)) w K := by
  obtain ⟨i, z, hi, hs, hby, hzz, hzc⟩ := slT_info hT
  have hr := run_make (P := P) w t E i z hT.und hi hzz k k' (n : Int) (n : Int) (by omega) (by omega) (by rw [hby]; omega) (by omega)
  simp only [Int.toNat_natCast, hzc, hz, hs, Nat.mul_one, madeCells_one] at hr
  refine slice_i hr fun w' g hg hblk hfr => h w' g hg ?_ hfr
  have : bvs (List.replicate n 0) = List.replicate n (.int .u8 0) := by simp [bvs, bv]
  unfold OwnB
  rw [this, List.length_replicate]
  exact Own.of_blk hblk (by simp)
theorem cell_take (cur : Array Value) (o n : Nat) (cs : List Value) (hc : (cur.toList.drop o).take n = cs) (hl : cs.length = n) (hn : 0 < n) : o + n ≤ cur.size := by
  have := congrArg List.length hc
  simp only [List.length_take, List.length_drop, Array.length_toList] at this
  omega
theorem Cel.take {h : Heap} {a : Option Addr} {m c size k : Nat} {cs : List Value} (hc : Cel h (.slice a m c) size m cs) (hk : k ≤ m) (c' : Nat) : Cel h (.slice a k c') size k (cs.take (k * size)) := by
  obtain ⟨a', c'', hv, hl, hh⟩ := hc
  cases hv
  have hmul : k * size ≤ m * size := Nat.mul_le_mul_right _ hk
  refine ⟨_, _, rfl, by simp; omega, ?_⟩
  rcases hh with h0 | ⟨g, o, cur, t, fr, rfl, hg, hcs⟩
  · exact .inl (by omega)
  · refine .inr ⟨g, o, cur, t, fr, rfl, hg, ?_⟩
    rw [← hcs, List.take_take, Nat.min_eq_left hmul]
/-- 'copy(d, x)', d owned. -/
theorem cpy_from {P : Program} {t tx ty E size bytes n m : Nat} {w : World} {d x : Value} {cs news : List Value} {F : List Nat} {K : Value → World → Prop}
    (hT : SlT P t E size bytes) (ho : Own w.heap d size n cs F) (hlm : news.length = m * size) (hle : (Builtin.lenOf x).run P w = .ok m w)
    (hsrc : (Builtin.firstCells size (Nat.min m n) x).run P w = .ok (news.take (min m n * size)).toArray w) (h1 : ∀ u ∈ news, u.oneCell' = true)
    (h : ∀ w', Own w'.heap d size n (news.take (min m n * size) ++ cs.drop (min m n * size)) F → Fr F w w' → K (.int .i64 (min m n : Nat)) w') : efP P (Builtin.copy_ #[t, tx] ty #[d, x]) w K := by
  have hln : cs.length = n * size := ho.1
  have hund := hT.und
  have hmin : min m n * size ≤ m * size := Nat.mul_le_mul_right _ (Nat.min_le_left _ _)
  have hmin2 : min m n * size ≤ n * size := Nat.mul_le_mul_right _ (Nat.min_le_right _ _)
  rcases ho.2 with ⟨rfl, rfl, rfl⟩ | ⟨g, o, cap, cur, E', rfl, hnc, hg, hfit, hcs, rfl⟩
  · have hc0 : cs = [] := List.eq_nil_of_length_eq_zero (by omega)
    subst hc0
    refine ⟨_, _, ?_, h w ⟨by simp, .inl ⟨rfl, rfl, rfl⟩⟩ (Fr.refl _ _)⟩
    simp only [Builtin.copy_, Sem.run_bind, Sem.run_pure, List.getElem?_toArray, List.getElem?_cons_zero, List.getElem?_cons_succ, run_underlying hund, Result.andThen_ok, hle, run_sizeOf hT.siz, hsrc]
    simp [goInt]
  · have hl2 : (news.take (min m n * size)).length = min m n * size := by simp; omega
    have hcap : n * size ≤ cap * size := Nat.mul_le_mul_right _ hnc
    have hfit2 : o + (news.take (min m n * size)).length ≤ cur.size := by omega
    have hst := run_storeCells_at P g o E' (news.take (min m n * size)) 0 cur w hg (by simpa using hfit2) (fun u hu => h1 u (List.mem_of_mem_take hu))
    simp only [Nat.add_zero] at hst
    rw [setRow_setBlk w g cur _ E' (0, 0) hg] at hst
    refine ⟨_, setBlk w g (.cells (splice cur o (news.take (min m n * size))) E' (0, 0)), ?_, h _ ⟨by simp; omega, .inr ⟨g, o, cap, splice cur o (news.take (min m n * size)), E', rfl, hnc, setBlk_self w g _ _ hg, ?_, ?_, rfl⟩⟩ (fr_setBlk w g _)⟩
    · simp only [Builtin.copy_, Sem.run_bind, Sem.run_pure, List.getElem?_toArray, List.getElem?_cons_zero, List.getElem?_cons_succ, run_underlying hund, Result.andThen_ok, hle, run_sizeOf hT.siz, hsrc, hst]
      rfl
    · simp only [splice, List.size_toArray, List.length_append, List.length_take, List.length_drop, Array.length_toList]; omega
    · have hcur : o + n * size ≤ cur.toList.length := by simp; omega
      simp only [splice]
      generalize news.take (min m n * size) = ns at *
      generalize min m n * size = q at *
      generalize cur.toList = l at *
      rw [← hcs, ← hl2, List.append_assoc, List.drop_append_of_le_length (by simp; omega), List.drop_take, Nat.sub_self, List.take_zero, List.nil_append,
        List.take_append, List.take_of_length_le (by omega), List.drop_take, List.drop_drop]
theorem cpy_own {P : Program} {t tx ty E size bytes n m : Nat} {w : World} {d x : Value} {cs news : List Value} {F : List Nat} {K : Value → World → Prop}
    (hT : SlT P t E size bytes) (ho : Own w.heap d size n cs F) (hn : Cel w.heap x size m news) (h1 : ∀ u ∈ news, u.oneCell' = true)
    (h : ∀ w', Own w'.heap d size n (news.take (min m n * size) ++ cs.drop (min m n * size)) F → Fr F w w' → K (.int .i64 (min m n : Nat)) w') : efP P (Builtin.copy_ #[t, tx] ty #[d, x]) w K := by
  have hlm : news.length = m * size := by obtain ⟨_, _, _, hl, _⟩ := hn; exact hl
  have hle := hn.lenOf (P := P) (w := w)
  have hsrc : (Builtin.firstCells size (Nat.min m n) x).run P w = .ok (news.take (min m n * size)).toArray w := by
    obtain ⟨a, c, rfl, hn'⟩ := hn
    have := (Cel.take (show Cel w.heap (.slice a m c) size m news from ⟨a, c, rfl, hn'⟩) (Nat.min_le_left m n) c).load (P := P) (w := w)
    rw [← this]
    cases a <;> rfl
  exact cpy_from hT ho hlm hle hsrc h1 h
theorem cpyB_eq (l m : List UInt8) : (bvs m).take (min m.length l.length * 1) ++ (bvs l).drop (min m.length l.length * 1) = bvs (m.take l.length ++ l.drop m.length) := by
  simp only [bvs, Nat.mul_one, List.map_append, List.map_take, List.map_drop]
  rcases Nat.le_total m.length l.length with h | h
  · rw [Nat.min_eq_left h, List.take_of_length_le (by simp), List.take_of_length_le (by simpa using h)]
  · rw [Nat.min_eq_right h, List.drop_of_length_le (by simp), List.drop_of_length_le (by simpa using h)]
theorem cpyB {P : Program} {t tx ty E : Nat} {w : World} {d x : Value} {l m : List UInt8} {F : List Nat} {K : Value → World → Prop}
    (hT : SlT P t E 1 1) (ho : OwnB w.heap d l F) (hn : RdB w.heap x m)
    (h : ∀ w', OwnB w'.heap d (m.take l.length ++ l.drop m.length) F → Fr F w w' → K (.int .i64 (min m.length l.length : Nat)) w') : efP P (Builtin.copy_ #[t, tx] ty #[d, x]) w K := by
  refine cpy_own hT ho hn (bvs_one m) fun w' h1 h2 => h w' ?_ h2
  have e2 : (m.take l.length ++ l.drop m.length).length = l.length := by simp; omega
  unfold OwnB
  rw [e2, ← cpyB_eq]
  exact h1
/-- 'copy(d, s)', s a text. -/
theorem cpyT {P : Program} {t tx ty E : Nat} {w : World} {d : Value} {l m : List UInt8} {F : List Nat} {K : Value → World → Prop}
    (hT : SlT P t E 1 1) (ho : OwnB w.heap d l F)
    (h : ∀ w', OwnB w'.heap d (m.take l.length ++ l.drop m.length) F → Fr F w w' → K (.int .i64 (min m.length l.length : Nat)) w') : efP P (Builtin.copy_ #[t, tx] ty #[d, .string ⟨m.toArray⟩]) w K := by
  refine cpy_from (m := m.length) (news := bvs m) hT ho (by simp [bvs]) (by simp [Builtin.lenOf, ByteArray.size]) ?_ (bvs_one m) fun w' h1 h2 => h w' ?_ h2
  · simp only [Builtin.firstCells, Sem.run_pure]
    congr 1
    apply Array.ext'
    simp [bvs, bv, ByteArray.data_extract, List.extract_eq_take_drop]
    rfl
  · have e2 : (m.take l.length ++ l.drop m.length).length = l.length := by simp; omega
    unfold OwnB
    rw [e2, ← cpyB_eq]
    exact h1

/-! ### Texts -/
theorem forIn_bytes {P : Program} (f : Value → ByteArray → Sem (ForInStep ByteArray)) (hf : ∀ b s, f (bv b) s = pure (.yield (s.push b))) : ∀ (l : List UInt8) (acc : ByteArray) (w : World),
    (forIn (bvs l).toArray acc f).run P w = .ok ⟨acc.data ++ l.toArray⟩ w := by
  intro l
  induction l with
  | nil => intro acc w; simp [bvs]
  | cons b l ih =>
    intro acc w
    have := ih (acc.push b) w
    simp only [bvs, List.map_cons, List.forIn_toArray, List.forIn_cons, hf, Sem.run_bind, Sem.run_pure, Result.andThen_ok] at this ⊢
    rw [this]
    congr 1
    simp [ByteArray.push]
theorem conv_str {P : Program} {t ts E : Nat} {w : World} {v : Value} {l : List UInt8} (hu : P.underlying t = some (.slice E)) (he : P.underlying E = some (.int .u8)) (hs : P.underlying ts = some .string) (hr : RdB w.heap v l) :
    (convert t ts v).run P w = .ok (.string ⟨l.toArray⟩) w := by
  obtain ⟨a, c, rfl, hl, hh⟩ := hr
  simp only [convert, Sem.run_bind, run_underlying hu, run_underlying hs, Result.andThen_ok, run_underlying he]
  cases a with
  | none =>
    have h0 : l = [] := by
      rcases hh with h0 | ⟨_, _, _, _, _, h, _⟩
      · exact List.eq_nil_of_length_eq_zero (by omega)
      · cases h
    subst h0
    rfl
  | some a =>
    have hload := (show Cel w.heap (.slice (some a) l.length c) 1 l.length (bvs l) from ⟨_, _, rfl, hl, hh⟩).load (P := P)
    simp only [Builtin.firstCells, Nat.mul_one] at hload
    simp only [Conv.bytesToString, Sem.run_bind, hload, Result.andThen_ok]
    rw [forIn_bytes _ (fun b s => by simp [bv])]
    simp
theorem eqS_bool {P : Program} {t : Nat} {x y : Operand} {w : World} (a b : Bool) (hu : P.underlying t = some .bool) (K : Value → Prop) : rdP P (eqS .eql t x y (.bool a) (.bool b)) w K = K (.bool (a == b)) := by
  refine rdP_eq ?_ K
  have h1 : ∀ d : Nat, (Op.equalIn (d + 1) t (.bool a) (.bool b)).run P w = .ok (a == b) w := fun d => by simp [Op.equalIn, run_underlying hu]
  simp only [eqS, eqGuard, binOp]
  simp [Op.equal, Op.maxDepth, h1 9999]
theorem neS_bool {P : Program} {t : Nat} {x y : Operand} {w : World} (a b : Bool) (hu : P.underlying t = some .bool) (K : Value → Prop) : rdP P (eqS .neq t x y (.bool a) (.bool b)) w K = K (.bool (a != b)) := by
  refine rdP_eq ?_ K
  have h1 : ∀ d : Nat, (Op.equalIn (d + 1) t (.bool a) (.bool b)).run P w = .ok (a == b) w := fun d => by simp [Op.equalIn, run_underlying hu]
  simp only [eqS, eqGuard, binOp]
  simp [Op.equal, Op.maxDepth, h1 9999]
  cases a <;> cases b <;> rfl
theorem eqS_str {P : Program} {t : Nat} {x y : Operand} {w : World} (a b : List UInt8) (K : Value → Prop) : rdP P (eqS .eql t x y (.string ⟨a.toArray⟩) (.string ⟨b.toArray⟩)) w K = K (.bool (a == b)) := by
  refine rdP_eq ?_ K
  simp only [eqS, eqGuard, binOp, Op.stringOp, ByteArray.toList_eq]
  simp
theorem neS_str {P : Program} {t : Nat} {x y : Operand} {w : World} (a b : List UInt8) (K : Value → Prop) : rdP P (eqS .neq t x y (.string ⟨a.toArray⟩) (.string ⟨b.toArray⟩)) w K = K (.bool (a != b)) := by
  refine rdP_eq ?_ K
  simp only [eqS, eqGuard, binOp, Op.stringOp, ByteArray.toList_eq]
  simp [bne]
end Go.Fx
