/-
  Messages in memory; what a kind bears; which messages may be: the program's and the document's.
-/
import Derived.Test.YtaodibbogbkgdaaMgA
set_option linter.unusedVariables false
set_option linter.unusedSimpArgs false
namespace Go.Fx
/-! ### Rows in memory -/
/-- A slice of bytes' slices. -/
def BSl (h : Heap) (v : Value) (l : List (Sl UInt8)) : Prop := Rows' qv h v (l.map (·.v)) ∧ ∀ s ∈ l, RdB h s.v s.l
theorem BSl.fr {w w' : World} {v : Value} {l : List (Sl UInt8)} (h : BSl w.heap v l) (hf : Fr [] w w') : BSl w'.heap v l := ⟨h.1.fr hf, fun s hs => (h.2 s hs).fr hf (off_nil _)⟩
theorem BSl.len {h : Heap} {v : Value} {l : List (Sl UInt8)} (hr : BSl h v l) (K : Value → Prop) : lenS v K = K (.int .i64 l.length) := by
  have := hr.1.len K
  rwa [List.length_map] at this
theorem BSl.ld {w : World} {v : Value} {l : List (Sl UInt8)} {j : Nat} {s : Sl UInt8} (hr : BSl w.heap v l) (hj : l[j]? = some s) (k : IntKind) {K : Value → Prop} (h : K s.v) : ixs 1 v (.int k (j : Int)) fun t => ld1 t w.heap K :=
  Rows'.ld1 (q := qv) hr.1 (a := s.v) (by rw [List.getElem?_map, hj]; rfl) k h
theorem BSl.of {h : Heap} {s : Sl (Sl UInt8)} (hr : (rSl rBytes).ok h s) : BSl h s.v s.l := by
  refine ⟨?_, fun a ha => (hr.2.2.2 a ha).1⟩
  have hc := hr.1
  have e : s.l.flatMap rBytes.cells = (s.l.map (·.v)).flatMap qv.cells := by
    generalize s.l = l
    induction l with
    | nil => rfl
    | cons a l ih => rw [List.flatMap_cons, ih]; rfl
  rw [e] at hc
  unfold Rows'
  rw [List.length_map]
  exact hc
/-- What a message's fields read as. -/
structure MR (h : Heap) (m : Msg) (iv bv : Value) (l : List (Sl UInt8)) : Prop where
  ids : Rows' (rVec 32) h iv m.ids
  bs : BSl h bv l
  eq : m.bs = l.map (·.l)
theorem MR.fr {w w' : World} {m : Msg} {iv bv : Value} {l : List (Sl UInt8)} (h : MR w.heap m iv bv l) (hf : Fr [] w w') : MR w'.heap m iv bv l := ⟨h.ids.fr hf, h.bs.fr hf, h.eq⟩
theorem MR.one {h : Heap} {m : Msg} {iv bv : Value} {l : List (Sl UInt8)} (hr : MR h m iv bv l) : iv.oneCell' = true ∧ bv.oneCell' = true := by
  obtain ⟨a, c, hv, _⟩ := hr.ids
  obtain ⟨a', c', hv', _⟩ := hr.bs.1
  rw [hv, hv']
  exact ⟨rfl, rfl⟩
theorem MR.bl {h : Heap} {m : Msg} {iv bv : Value} {l : List (Sl UInt8)} (hr : MR h m iv bv l) (K : Value → Prop) : lenS bv K = K (.int .i64 m.bs.length) := by
  rw [hr.bs.len, hr.eq, List.length_map]
theorem Sep.mr {w0 w : World} {As : List Asn} {m : Msg} {iv bv : Value} {l : List (Sl UInt8)} (h : Sep w0 w As) (hr : MR w0.heap m iv bv l) : MR w.heap m iv bv l := hr.fr h.1
abbrev mq (m : Msg) (iv bv : Value) : Value := .agg (Rdr.cells Q_api_Msg (m.k, m.q, iv, bv)).toArray
abbrev mb (g : Nat) (m : Msg) (iv bv : Value) : Asn := blk g (Rdr.cells Q_api_Msg (m.k, m.q, iv, bv)).toArray T_api_Msg
theorem bxA {w0 w : World} {As : List Asn} {t : TypeId} {cs : Array Value} {K : Value → World → Prop} (hs : Sep w0 w As) (h : ∀ g w', Sep w0 w' (blk g cs t :: As) → K (.pointer (some ⟨g, 0, .none⟩)) w') : bx t (.agg cs) w K := bx_s hs fun g w' hs' => h g w' hs'
/-! ### What a kind bears -/
inductive Body where
  | nil | nothing | some (n : Int) | names | blocks (one : Bool)
def Body.v : Body → Value
  | .nil => .nilIface
  | .nothing => .iface T_msg_nothing (.agg #[])
  | .some n => .iface T_msg_some (.agg #[.int .i64 n])
  | .names => .iface T_msg_names (.agg #[])
  | .blocks b => .iface T_msg_blocks (.agg #[.bool b])
def kbody (k : Int) : Body :=
  if k = 1 then .nothing else if k = 2 ∨ k = 5 ∨ k = 7 ∨ k = 10 then .some 1 else if k = 11 then .some 2 else if k = 3 ∨ k = 4 then .names
  else if k = 6 then .blocks false else if k = 8 ∨ k = 9 then .blocks true else .nil
def Body.isNil : Body → Bool
  | .nil => true
  | _ => false
def Body.isSome : Body → Bool
  | .some _ => true
  | _ => false
def Body.isNames : Body → Bool
  | .names => true
  | _ => false
def Body.isBlocks : Body → Bool
  | .blocks _ => true
  | _ => false
def Body.n : Body → Int
  | .some n => n
  | _ => 0
def Body.one : Body → Bool
  | .blocks b => b
  | _ => false
theorem k11 {k : Int} (h : 1 ≤ k ∧ k ≤ 11) : k = 1 ∨ k = 2 ∨ k = 3 ∨ k = 4 ∨ k = 5 ∨ k = 6 ∨ k = 7 ∨ k = 8 ∨ k = 9 ∨ k = 10 ∨ k = 11 := by omega
theorem kno {k : Int} (h : ¬ (1 ≤ k ∧ k ≤ 11)) {i : Int} (h1 : 1 ≤ i) (h2 : i ≤ 11) : (k == i) = false := by
  simp only [beq_eq_false_iff_ne, ne_eq]
  omega
theorem kbody_no {k : Int} (h : ¬ (1 ≤ k ∧ k ≤ 11)) : kbody k = .nil := by
  unfold kbody
  repeat rw [if_neg (by omega)]
theorem bearsR_no {k : Int} (h : ¬ (1 ≤ k ∧ k ≤ 11)) : bearsR k = (0, 0, -1) := by
  unfold bearsR
  repeat rw [if_neg (by omega)]
section
variable {w0 w : World} {As : List Asn} {iv bv : Value} {m : Msg} {l : List (Sl UInt8)}
theorem nil_body (b : Body) (K : Value → Prop) : rdP P (eqS BinOp.eql T_msg_body (Operand.tmp 8) (Operand.const Value.nilIface) b.v Value.nilIface) w K = K (.bool b.isNil) := by
  cases b <;> exact rdP_eq (by kernel_rfl) K
theorem as_some (b : Body) (K : Value → Prop) : rdP P (Instr.typeAssert b.v T_msg_body T_msg_some true) w K = K (.tuple #[.agg #[.int .i64 b.n], .bool b.isSome]) := by
  cases b <;> exact rdP_eq (by kernel_rfl) K
theorem as_names (b : Body) (K : Value → Prop) : rdP P (Instr.typeAssert b.v T_msg_body T_msg_names true) w K = K (.tuple #[.agg #[], .bool b.isNames]) := by
  cases b <;> exact rdP_eq (by kernel_rfl) K
theorem as_blocks (b : Body) (K : Value → Prop) : rdP P (Instr.typeAssert b.v T_msg_body T_msg_blocks true) w K = K (.tuple #[.agg #[.bool b.one], .bool b.isBlocks]) := by
  cases b <;> exact rdP_eq (by kernel_rfl) K
theorem bears_spec (k : Int) : cal P f_msg_bears [.int .i64 k] w fun r w' => r = (kbody k).v ∧ w = w' := by
  refine s_msg_bears fun R hR => ?_
  unfold c_msg_bears
  have b1 : ∀ K, rdP P (Instr.build T_msg_nothing #[]) w K = K (.agg #[]) := fun K => rdP_eq (by kernel_rfl) K
  have b2 : ∀ (n : Int) K, rdP P (Instr.build T_msg_some #[(0, .int .i64 n)]) w K = K (.agg #[.int .i64 n]) := fun n K => rdP_eq (by kernel_rfl) K
  have b3 : ∀ K, rdP P (Instr.build T_msg_names #[]) w K = K (.agg #[]) := fun K => rdP_eq (by kernel_rfl) K
  have b4 : ∀ K, rdP P (Instr.build T_msg_blocks #[]) w K = K (.agg #[.bool false]) := fun K => rdP_eq (by kernel_rfl) K
  have b5 : ∀ b K, rdP P (Instr.build T_msg_blocks #[(0, .bool b)]) w K = K (.agg #[.bool b]) := fun b K => rdP_eq (by kernel_rfl) K
  have m1 : ∀ cs K, rdP P (Instr.makeInterface T_msg_nothing (.agg cs)) w K = K (.iface T_msg_nothing (.agg cs)) := fun cs K => rdP_eq (by kernel_rfl) K
  have m2 : ∀ cs K, rdP P (Instr.makeInterface T_msg_some (.agg cs)) w K = K (.iface T_msg_some (.agg cs)) := fun cs K => rdP_eq (by kernel_rfl) K
  have m3 : ∀ cs K, rdP P (Instr.makeInterface T_msg_names (.agg cs)) w K = K (.iface T_msg_names (.agg cs)) := fun cs K => rdP_eq (by kernel_rfl) K
  have m4 : ∀ cs K, rdP P (Instr.makeInterface T_msg_blocks (.agg cs)) w K = K (.iface T_msg_blocks (.agg cs)) := fun cs K => rdP_eq (by kernel_rfl) K
  by_cases h : 1 ≤ k ∧ k ≤ 11
  · rcases k11 h with rfl | rfl | rfl | rfl | rfl | rfl | rfl | rfl | rfl | rfl | rfl <;> simp only [nilc_some, fad_mk, pik_true, pik_false, cnd_true, cnd_false, gif_same, gif_tf, gif_ft, gif_undef, bi_add, bi_sub, bi_mul, bi_eql, bi_neq, bi_lss, bi_leq, bi_gtr, bi_geq, notB_bool, cvi_int, lenS_mk, lenT_mk, ext0, ext1, ext2, nilP_mk, nilS_mk, fldv_agg, jn0_k, jn1_k, jn2_k, jn1_and, jn1_or, ex_some, Option.isNone_some, Option.isNone_none, Bool.false_bne, Bool.bne_true, Bool.bne_false, Bool.true_bne, Bool.not_true, Bool.not_false, Bool.and_true, Bool.true_and, Bool.and_false, Bool.false_and, Bool.or_true, Bool.true_or, Bool.or_false, Bool.false_or, cond_true, cond_false, List.getElem?_toArray, List.getElem?_cons_zero, List.getElem?_cons_succ, Nat.zero_add, Nat.add_zero, Nat.reduceAdd, forall_const, Int.reduceBEq, b1, b2, b3, b4, b5, m1, m2, m3, m4] <;> exact hR _ _ ⟨rfl, rfl⟩
  · have e : ∀ i : Int, 1 ≤ i → i ≤ 11 → (k == i) = false := fun i h1 h2 => kno h h1 h2
    simp only [nilc_some, fad_mk, pik_true, pik_false, cnd_true, cnd_false, gif_same, gif_tf, gif_ft, gif_undef, bi_add, bi_sub, bi_mul, bi_eql, bi_neq, bi_lss, bi_leq, bi_gtr, bi_geq, notB_bool, cvi_int, lenS_mk, lenT_mk, ext0, ext1, ext2, nilP_mk, nilS_mk, fldv_agg, jn0_k, jn1_k, jn2_k, jn1_and, jn1_or, ex_some, Option.isNone_some, Option.isNone_none, Bool.false_bne, Bool.bne_true, Bool.bne_false, Bool.true_bne, Bool.not_true, Bool.not_false, Bool.and_true, Bool.true_and, Bool.and_false, Bool.false_and, Bool.or_true, Bool.true_or, Bool.or_false, Bool.false_or, cond_true, cond_false, List.getElem?_toArray, List.getElem?_cons_zero, List.getElem?_cons_succ, Nat.zero_add, Nat.add_zero, Nat.reduceAdd, forall_const, e 1 (by decide) (by decide), e 2 (by decide) (by decide), e 3 (by decide) (by decide), e 4 (by decide) (by decide), e 5 (by decide) (by decide), e 6 (by decide) (by decide), e 7 (by decide) (by decide), e 8 (by decide) (by decide), e 9 (by decide) (by decide), e 10 (by decide) (by decide), e 11 (by decide) (by decide)]
    exact hR _ _ ⟨by rw [kbody_no h]; rfl, rfl⟩
theorem rbears_spec (k : Int) : cal P f_ref04_bears [.int .i64 k] w fun r w' => r = .tuple #[.int .i64 (bearsR k).1, .int .i64 (bearsR k).2.1, .int .i64 (bearsR k).2.2] ∧ w = w' := by
  refine s_ref04_bears fun R hR => ?_
  unfold c_ref04_bears
  by_cases h : 1 ≤ k ∧ k ≤ 11
  · rcases k11 h with rfl | rfl | rfl | rfl | rfl | rfl | rfl | rfl | rfl | rfl | rfl <;> simp only [nilc_some, fad_mk, pik_true, pik_false, cnd_true, cnd_false, gif_same, gif_tf, gif_ft, gif_undef, bi_add, bi_sub, bi_mul, bi_eql, bi_neq, bi_lss, bi_leq, bi_gtr, bi_geq, notB_bool, cvi_int, lenS_mk, lenT_mk, ext0, ext1, ext2, nilP_mk, nilS_mk, fldv_agg, jn0_k, jn1_k, jn2_k, jn1_and, jn1_or, ex_some, Option.isNone_some, Option.isNone_none, Bool.false_bne, Bool.bne_true, Bool.bne_false, Bool.true_bne, Bool.not_true, Bool.not_false, Bool.and_true, Bool.true_and, Bool.and_false, Bool.false_and, Bool.or_true, Bool.true_or, Bool.or_false, Bool.false_or, cond_true, cond_false, List.getElem?_toArray, List.getElem?_cons_zero, List.getElem?_cons_succ, Nat.zero_add, Nat.add_zero, Nat.reduceAdd, forall_const, Int.reduceBEq] <;> exact hR _ _ ⟨rfl, rfl⟩
  · have e : ∀ i : Int, 1 ≤ i → i ≤ 11 → (k == i) = false := fun i h1 h2 => kno h h1 h2
    simp only [nilc_some, fad_mk, pik_true, pik_false, cnd_true, cnd_false, gif_same, gif_tf, gif_ft, gif_undef, bi_add, bi_sub, bi_mul, bi_eql, bi_neq, bi_lss, bi_leq, bi_gtr, bi_geq, notB_bool, cvi_int, lenS_mk, lenT_mk, ext0, ext1, ext2, nilP_mk, nilS_mk, fldv_agg, jn0_k, jn1_k, jn2_k, jn1_and, jn1_or, ex_some, Option.isNone_some, Option.isNone_none, Bool.false_bne, Bool.bne_true, Bool.bne_false, Bool.true_bne, Bool.not_true, Bool.not_false, Bool.and_true, Bool.true_and, Bool.and_false, Bool.false_and, Bool.or_true, Bool.true_or, Bool.or_false, Bool.false_or, cond_true, cond_false, List.getElem?_toArray, List.getElem?_cons_zero, List.getElem?_cons_succ, Nat.zero_add, Nat.add_zero, Nat.reduceAdd, forall_const, e 1 (by decide) (by decide), e 2 (by decide) (by decide), e 3 (by decide) (by decide), e 4 (by decide) (by decide), e 5 (by decide) (by decide), e 6 (by decide) (by decide), e 7 (by decide) (by decide), e 8 (by decide) (by decide), e 9 (by decide) (by decide), e 10 (by decide) (by decide), e 11 (by decide) (by decide)]
    exact hR _ _ ⟨by rw [bearsR_no h]; rfl, rfl⟩
theorem al_names {K : Value → World → Prop} (hs : Sep w0 w As) (h : ∀ g w', Sep w0 w' As → K (.pointer (some ⟨g, 0, none⟩)) w') : efP P (Instr.alloc T_msg_names true (.tuple #[])) w fun p w => stN 0 p (.agg #[]) w fun w => K p w :=
  alloc_s hs (al_msg_names w) fun g w1 hs1 => stN_s hs1 rfl (by simp) (by simp) fun w2 hs2 => h g w2 hs2.tail
theorem counts_spec (b : Body) : cal P f_msg_counts [b.v] w fun r w' => r = .bool (b.isNames || (b.isBlocks && !b.one)) ∧ Fr [] w w' := by
  refine s_msg_counts fun R hR => ?_
  unfold c_msg_counts
  rw [as_names]
  simp only [nilc_some, fad_mk, pik_true, pik_false, cnd_true, cnd_false, gif_same, gif_tf, gif_ft, gif_undef, bi_add, bi_sub, bi_mul, bi_eql, bi_neq, bi_lss, bi_leq, bi_gtr, bi_geq, notB_bool, cvi_int, lenS_mk, lenT_mk, ext0, ext1, ext2, nilP_mk, nilS_mk, fldv_agg, jn0_k, jn1_k, jn2_k, jn1_and, jn1_or, ex_some, Option.isNone_some, Option.isNone_none, Bool.false_bne, Bool.bne_true, Bool.bne_false, Bool.true_bne, Bool.not_true, Bool.not_false, Bool.and_true, Bool.true_and, Bool.and_false, Bool.false_and, Bool.or_true, Bool.true_or, Bool.or_false, Bool.false_or, cond_true, cond_false, List.getElem?_toArray, List.getElem?_cons_zero, List.getElem?_cons_succ, Nat.zero_add, Nat.add_zero, Nat.reduceAdd, forall_const]
  refine al_names (Sep.start w) fun g w1 hs1 => ?_
  cases hn : b.isNames with
  | true =>
    rw [cnd_true]
    exact hR _ _ ⟨by rw [hn]; rfl, hs1.fr0⟩
  | false =>
    rw [cnd_false, as_blocks]
    simp only [nilc_some, fad_mk, pik_true, pik_false, cnd_true, cnd_false, gif_same, gif_tf, gif_ft, gif_undef, bi_add, bi_sub, bi_mul, bi_eql, bi_neq, bi_lss, bi_leq, bi_gtr, bi_geq, notB_bool, cvi_int, lenS_mk, lenT_mk, ext0, ext1, ext2, nilP_mk, nilS_mk, fldv_agg, jn0_k, jn1_k, jn2_k, jn1_and, jn1_or, ex_some, Option.isNone_some, Option.isNone_none, Bool.false_bne, Bool.bne_true, Bool.bne_false, Bool.true_bne, Bool.not_true, Bool.not_false, Bool.and_true, Bool.true_and, Bool.and_false, Bool.false_and, Bool.or_true, Bool.true_or, Bool.or_false, Bool.false_or, cond_true, cond_false, List.getElem?_toArray, List.getElem?_cons_zero, List.getElem?_cons_succ, Nat.zero_add, Nat.add_zero, Nat.reduceAdd, forall_const]
    refine alloc_s hs1 (A_msg_blocks w1) fun g2 w2 hs2 => ?_
    refine St_msg_blocks (b := b.one) hs2 one_msg_blocks fun w3 hs3 => ?_
    cases hb : b.isBlocks with
    | true =>
      simp only [nilc_some, fad_mk, pik_true, pik_false, cnd_true, cnd_false, gif_same, gif_tf, gif_ft, gif_undef, bi_add, bi_sub, bi_mul, bi_eql, bi_neq, bi_lss, bi_leq, bi_gtr, bi_geq, notB_bool, cvi_int, lenS_mk, lenT_mk, ext0, ext1, ext2, nilP_mk, nilS_mk, fldv_agg, jn0_k, jn1_k, jn2_k, jn1_and, jn1_or, ex_some, Option.isNone_some, Option.isNone_none, Bool.false_bne, Bool.bne_true, Bool.bne_false, Bool.true_bne, Bool.not_true, Bool.not_false, Bool.and_true, Bool.true_and, Bool.and_false, Bool.false_and, Bool.or_true, Bool.true_or, Bool.or_false, Bool.false_or, cond_true, cond_false, List.getElem?_toArray, List.getElem?_cons_zero, List.getElem?_cons_succ, Nat.zero_add, Nat.add_zero, Nat.reduceAdd, forall_const, L_msg_blocks__one hs3.blk]
      exact hR _ _ ⟨by rw [hn, hb]; rfl, hs3.fr0⟩
    | false =>
      simp only [nilc_some, fad_mk, pik_true, pik_false, cnd_true, cnd_false, gif_same, gif_tf, gif_ft, gif_undef, bi_add, bi_sub, bi_mul, bi_eql, bi_neq, bi_lss, bi_leq, bi_gtr, bi_geq, notB_bool, cvi_int, lenS_mk, lenT_mk, ext0, ext1, ext2, nilP_mk, nilS_mk, fldv_agg, jn0_k, jn1_k, jn2_k, jn1_and, jn1_or, ex_some, Option.isNone_some, Option.isNone_none, Bool.false_bne, Bool.bne_true, Bool.bne_false, Bool.true_bne, Bool.not_true, Bool.not_false, Bool.and_true, Bool.true_and, Bool.and_false, Bool.false_and, Bool.or_true, Bool.true_or, Bool.or_false, Bool.false_or, cond_true, cond_false, List.getElem?_toArray, List.getElem?_cons_zero, List.getElem?_cons_succ, Nat.zero_add, Nat.add_zero, Nat.reduceAdd, forall_const]
      exact hR _ _ ⟨by rw [hn, hb]; rfl, hs3.fr0⟩
def fitsM : Body → Nat → Nat → Bool
  | .some n, i, b => ((i : Int) == n) && b == 0
  | .blocks one, i, b => i == 0 && decide (b ≤ 16) && (!one || b == 1)
  | .names, i, b => decide (i ≤ 32) && b == 0
  | _, i, b => i == 0 && b == 0
theorem beqN (a b : Nat) : (((a : Nat) : Int) == (b : Int)) = (a == b) := by
  rw [Bool.eq_iff_iff]; simp only [beq_iff_eq]; omega
theorem fits_spec (hr : MR w.heap m iv bv l) (b : Body) : cal P f_msg_fits [mq m iv bv, b.v] w fun r w' => r = .bool (fitsM b m.ids.length m.bs.length) ∧ Fr [] w w' := by
  refine s_msg_fits fun R hR => ?_
  unfold c_msg_fits
  refine bxA (Sep.start w) fun g w1 hs => ?_
  refine drw_s hs fun w2 hs _ => ?_
  have e0 : ∀ n : Nat, ((n : Int) == 0) = (n == 0) := fun n => beqN n 0
  have e1 : ∀ n : Nat, ((n : Int) == 1) = (n == 1) := fun n => beqN n 1
  have e2 : ∀ n : Nat, decide ((n : Int) ≤ 16) = decide (n ≤ 16) := fun n => by rw [decide_eq_decide]; omega
  have e3 : ∀ n : Nat, decide ((n : Int) ≤ 32) = decide (n ≤ 32) := fun n => by rw [decide_eq_decide]; omega
  simp only [nilc_some, fad_mk, pik_true, pik_false, cnd_true, cnd_false, gif_same, gif_tf, gif_ft, gif_undef, bi_add, bi_sub, bi_mul, bi_eql, bi_neq, bi_lss, bi_leq, bi_gtr, bi_geq, notB_bool, cvi_int, lenS_mk, lenT_mk, ext0, ext1, ext2, nilP_mk, nilS_mk, fldv_agg, jn0_k, jn1_k, jn2_k, jn1_and, jn1_or, ex_some, Option.isNone_some, Option.isNone_none, Bool.false_bne, Bool.bne_true, Bool.bne_false, Bool.true_bne, Bool.not_true, Bool.not_false, Bool.and_true, Bool.true_and, Bool.and_false, Bool.false_and, Bool.or_true, Bool.true_or, Bool.or_false, Bool.false_or, cond_true, cond_false, List.getElem?_toArray, List.getElem?_cons_zero, List.getElem?_cons_succ, Nat.zero_add, Nat.add_zero, Nat.reduceAdd, forall_const, L_api_Msg hs.blk, L_api_Msg__Kind hs.blk, L_api_Msg__Req hs.blk, L_api_Msg__IDs hs.blk, L_api_Msg__Blocks hs.blk, hr.ids.len, hr.bl, as_some]
  refine alloc_s hs (A_msg_some w2) fun g3 w3 hs3 => ?_
  refine St_msg_some (b := b.n) hs3 one_msg_some fun w4 hs4 => ?_
  have fin : ∀ (c : Bool) (w' : World), Fr [] w w' → fitsM b m.ids.length m.bs.length = c → R (.bool c) w' := fun c w' hf hc => hR _ _ ⟨by rw [hc], hf⟩
  cases b with
  | some n =>
    simp only [Body.isSome, Body.n, nilc_some, fad_mk, pik_true, pik_false, cnd_true, cnd_false, gif_same, gif_tf, gif_ft, gif_undef, bi_add, bi_sub, bi_mul, bi_eql, bi_neq, bi_lss, bi_leq, bi_gtr, bi_geq, notB_bool, cvi_int, lenS_mk, lenT_mk, ext0, ext1, ext2, nilP_mk, nilS_mk, fldv_agg, jn0_k, jn1_k, jn2_k, jn1_and, jn1_or, ex_some, Option.isNone_some, Option.isNone_none, Bool.false_bne, Bool.bne_true, Bool.bne_false, Bool.true_bne, Bool.not_true, Bool.not_false, Bool.and_true, Bool.true_and, Bool.and_false, Bool.false_and, Bool.or_true, Bool.true_or, Bool.or_false, Bool.false_or, cond_true, cond_false, List.getElem?_toArray, List.getElem?_cons_zero, List.getElem?_cons_succ, Nat.zero_add, Nat.add_zero, Nat.reduceAdd, forall_const, L_msg_some__n hs4.blk, e0]
    cases hi : ((m.ids.length : Int) == n) <;> simp only [nilc_some, fad_mk, pik_true, pik_false, cnd_true, cnd_false, gif_same, gif_tf, gif_ft, gif_undef, bi_add, bi_sub, bi_mul, bi_eql, bi_neq, bi_lss, bi_leq, bi_gtr, bi_geq, notB_bool, cvi_int, lenS_mk, lenT_mk, ext0, ext1, ext2, nilP_mk, nilS_mk, fldv_agg, jn0_k, jn1_k, jn2_k, jn1_and, jn1_or, ex_some, Option.isNone_some, Option.isNone_none, Bool.false_bne, Bool.bne_true, Bool.bne_false, Bool.true_bne, Bool.not_true, Bool.not_false, Bool.and_true, Bool.true_and, Bool.and_false, Bool.false_and, Bool.or_true, Bool.true_or, Bool.or_false, Bool.false_or, cond_true, cond_false, List.getElem?_toArray, List.getElem?_cons_zero, List.getElem?_cons_succ, Nat.zero_add, Nat.add_zero, Nat.reduceAdd, forall_const] <;> exact fin _ _ hs4.fr0 (by simp [fitsM, hi])
  | blocks one =>
    simp only [Body.isSome, nilc_some, fad_mk, pik_true, pik_false, cnd_true, cnd_false, gif_same, gif_tf, gif_ft, gif_undef, bi_add, bi_sub, bi_mul, bi_eql, bi_neq, bi_lss, bi_leq, bi_gtr, bi_geq, notB_bool, cvi_int, lenS_mk, lenT_mk, ext0, ext1, ext2, nilP_mk, nilS_mk, fldv_agg, jn0_k, jn1_k, jn2_k, jn1_and, jn1_or, ex_some, Option.isNone_some, Option.isNone_none, Bool.false_bne, Bool.bne_true, Bool.bne_false, Bool.true_bne, Bool.not_true, Bool.not_false, Bool.and_true, Bool.true_and, Bool.and_false, Bool.false_and, Bool.or_true, Bool.true_or, Bool.or_false, Bool.false_or, cond_true, cond_false, List.getElem?_toArray, List.getElem?_cons_zero, List.getElem?_cons_succ, Nat.zero_add, Nat.add_zero, Nat.reduceAdd, forall_const, as_blocks, Body.one, Body.isBlocks]
    refine alloc_s hs4 (A_msg_blocks w4) fun g5 w5 hs5 => ?_
    refine St_msg_blocks (b := one) hs5 one_msg_blocks fun w6 hs6 => ?_
    simp only [nilc_some, fad_mk, pik_true, pik_false, cnd_true, cnd_false, gif_same, gif_tf, gif_ft, gif_undef, bi_add, bi_sub, bi_mul, bi_eql, bi_neq, bi_lss, bi_leq, bi_gtr, bi_geq, notB_bool, cvi_int, lenS_mk, lenT_mk, ext0, ext1, ext2, nilP_mk, nilS_mk, fldv_agg, jn0_k, jn1_k, jn2_k, jn1_and, jn1_or, ex_some, Option.isNone_some, Option.isNone_none, Bool.false_bne, Bool.bne_true, Bool.bne_false, Bool.true_bne, Bool.not_true, Bool.not_false, Bool.and_true, Bool.true_and, Bool.and_false, Bool.false_and, Bool.or_true, Bool.true_or, Bool.or_false, Bool.false_or, cond_true, cond_false, List.getElem?_toArray, List.getElem?_cons_zero, List.getElem?_cons_succ, Nat.zero_add, Nat.add_zero, Nat.reduceAdd, forall_const, L_msg_blocks__one hs6.blk, e0, e1, e2]
    cases hi : (m.ids.length == 0)
    · simp only [nilc_some, fad_mk, pik_true, pik_false, cnd_true, cnd_false, gif_same, gif_tf, gif_ft, gif_undef, bi_add, bi_sub, bi_mul, bi_eql, bi_neq, bi_lss, bi_leq, bi_gtr, bi_geq, notB_bool, cvi_int, lenS_mk, lenT_mk, ext0, ext1, ext2, nilP_mk, nilS_mk, fldv_agg, jn0_k, jn1_k, jn2_k, jn1_and, jn1_or, ex_some, Option.isNone_some, Option.isNone_none, Bool.false_bne, Bool.bne_true, Bool.bne_false, Bool.true_bne, Bool.not_true, Bool.not_false, Bool.and_true, Bool.true_and, Bool.and_false, Bool.false_and, Bool.or_true, Bool.true_or, Bool.or_false, Bool.false_or, cond_true, cond_false, List.getElem?_toArray, List.getElem?_cons_zero, List.getElem?_cons_succ, Nat.zero_add, Nat.add_zero, Nat.reduceAdd, forall_const]
      exact fin _ _ hs6.fr0 (by simp [fitsM, hi])
    · cases hb : decide (m.bs.length ≤ 16)
      · simp only [nilc_some, fad_mk, pik_true, pik_false, cnd_true, cnd_false, gif_same, gif_tf, gif_ft, gif_undef, bi_add, bi_sub, bi_mul, bi_eql, bi_neq, bi_lss, bi_leq, bi_gtr, bi_geq, notB_bool, cvi_int, lenS_mk, lenT_mk, ext0, ext1, ext2, nilP_mk, nilS_mk, fldv_agg, jn0_k, jn1_k, jn2_k, jn1_and, jn1_or, ex_some, Option.isNone_some, Option.isNone_none, Bool.false_bne, Bool.bne_true, Bool.bne_false, Bool.true_bne, Bool.not_true, Bool.not_false, Bool.and_true, Bool.true_and, Bool.and_false, Bool.false_and, Bool.or_true, Bool.true_or, Bool.or_false, Bool.false_or, cond_true, cond_false, List.getElem?_toArray, List.getElem?_cons_zero, List.getElem?_cons_succ, Nat.zero_add, Nat.add_zero, Nat.reduceAdd, forall_const]
        exact fin _ _ hs6.fr0 (by simp [fitsM, hi, hb])
      · cases one
        · simp only [nilc_some, fad_mk, pik_true, pik_false, cnd_true, cnd_false, gif_same, gif_tf, gif_ft, gif_undef, bi_add, bi_sub, bi_mul, bi_eql, bi_neq, bi_lss, bi_leq, bi_gtr, bi_geq, notB_bool, cvi_int, lenS_mk, lenT_mk, ext0, ext1, ext2, nilP_mk, nilS_mk, fldv_agg, jn0_k, jn1_k, jn2_k, jn1_and, jn1_or, ex_some, Option.isNone_some, Option.isNone_none, Bool.false_bne, Bool.bne_true, Bool.bne_false, Bool.true_bne, Bool.not_true, Bool.not_false, Bool.and_true, Bool.true_and, Bool.and_false, Bool.false_and, Bool.or_true, Bool.true_or, Bool.or_false, Bool.false_or, cond_true, cond_false, List.getElem?_toArray, List.getElem?_cons_zero, List.getElem?_cons_succ, Nat.zero_add, Nat.add_zero, Nat.reduceAdd, forall_const]
          exact fin _ _ hs6.fr0 (by simp [fitsM, hi, hb])
        · simp only [nilc_some, fad_mk, pik_true, pik_false, cnd_true, cnd_false, gif_same, gif_tf, gif_ft, gif_undef, bi_add, bi_sub, bi_mul, bi_eql, bi_neq, bi_lss, bi_leq, bi_gtr, bi_geq, notB_bool, cvi_int, lenS_mk, lenT_mk, ext0, ext1, ext2, nilP_mk, nilS_mk, fldv_agg, jn0_k, jn1_k, jn2_k, jn1_and, jn1_or, ex_some, Option.isNone_some, Option.isNone_none, Bool.false_bne, Bool.bne_true, Bool.bne_false, Bool.true_bne, Bool.not_true, Bool.not_false, Bool.and_true, Bool.true_and, Bool.and_false, Bool.false_and, Bool.or_true, Bool.true_or, Bool.or_false, Bool.false_or, cond_true, cond_false, List.getElem?_toArray, List.getElem?_cons_zero, List.getElem?_cons_succ, Nat.zero_add, Nat.add_zero, Nat.reduceAdd, forall_const, L_msg_blocks__one hs6.blk]
          exact fin _ _ hs6.fr0 (by simp [fitsM, hi, hb])
  | names =>
    simp only [Body.isSome, nilc_some, fad_mk, pik_true, pik_false, cnd_true, cnd_false, gif_same, gif_tf, gif_ft, gif_undef, bi_add, bi_sub, bi_mul, bi_eql, bi_neq, bi_lss, bi_leq, bi_gtr, bi_geq, notB_bool, cvi_int, lenS_mk, lenT_mk, ext0, ext1, ext2, nilP_mk, nilS_mk, fldv_agg, jn0_k, jn1_k, jn2_k, jn1_and, jn1_or, ex_some, Option.isNone_some, Option.isNone_none, Bool.false_bne, Bool.bne_true, Bool.bne_false, Bool.true_bne, Bool.not_true, Bool.not_false, Bool.and_true, Bool.true_and, Bool.and_false, Bool.false_and, Bool.or_true, Bool.true_or, Bool.or_false, Bool.false_or, cond_true, cond_false, List.getElem?_toArray, List.getElem?_cons_zero, List.getElem?_cons_succ, Nat.zero_add, Nat.add_zero, Nat.reduceAdd, forall_const, as_blocks, as_names, Body.one, Body.isBlocks, Body.isNames]
    refine alloc_s hs4 (A_msg_blocks w4) fun g5 w5 hs5 => ?_
    refine St_msg_blocks (b := false) hs5 one_msg_blocks fun w6 hs6 => ?_
    refine al_names hs6 fun g7 w7 hs7 => ?_
    simp only [nilc_some, fad_mk, pik_true, pik_false, cnd_true, cnd_false, gif_same, gif_tf, gif_ft, gif_undef, bi_add, bi_sub, bi_mul, bi_eql, bi_neq, bi_lss, bi_leq, bi_gtr, bi_geq, notB_bool, cvi_int, lenS_mk, lenT_mk, ext0, ext1, ext2, nilP_mk, nilS_mk, fldv_agg, jn0_k, jn1_k, jn2_k, jn1_and, jn1_or, ex_some, Option.isNone_some, Option.isNone_none, Bool.false_bne, Bool.bne_true, Bool.bne_false, Bool.true_bne, Bool.not_true, Bool.not_false, Bool.and_true, Bool.true_and, Bool.and_false, Bool.false_and, Bool.or_true, Bool.true_or, Bool.or_false, Bool.false_or, cond_true, cond_false, List.getElem?_toArray, List.getElem?_cons_zero, List.getElem?_cons_succ, Nat.zero_add, Nat.add_zero, Nat.reduceAdd, forall_const, e0, e3]
    cases hi : decide (m.ids.length ≤ 32) <;> simp only [nilc_some, fad_mk, pik_true, pik_false, cnd_true, cnd_false, gif_same, gif_tf, gif_ft, gif_undef, bi_add, bi_sub, bi_mul, bi_eql, bi_neq, bi_lss, bi_leq, bi_gtr, bi_geq, notB_bool, cvi_int, lenS_mk, lenT_mk, ext0, ext1, ext2, nilP_mk, nilS_mk, fldv_agg, jn0_k, jn1_k, jn2_k, jn1_and, jn1_or, ex_some, Option.isNone_some, Option.isNone_none, Bool.false_bne, Bool.bne_true, Bool.bne_false, Bool.true_bne, Bool.not_true, Bool.not_false, Bool.and_true, Bool.true_and, Bool.and_false, Bool.false_and, Bool.or_true, Bool.true_or, Bool.or_false, Bool.false_or, cond_true, cond_false, List.getElem?_toArray, List.getElem?_cons_zero, List.getElem?_cons_succ, Nat.zero_add, Nat.add_zero, Nat.reduceAdd, forall_const] <;> exact fin _ _ hs7.fr0 (by simp [fitsM, hi])
  | nil =>
    simp only [Body.isSome, nilc_some, fad_mk, pik_true, pik_false, cnd_true, cnd_false, gif_same, gif_tf, gif_ft, gif_undef, bi_add, bi_sub, bi_mul, bi_eql, bi_neq, bi_lss, bi_leq, bi_gtr, bi_geq, notB_bool, cvi_int, lenS_mk, lenT_mk, ext0, ext1, ext2, nilP_mk, nilS_mk, fldv_agg, jn0_k, jn1_k, jn2_k, jn1_and, jn1_or, ex_some, Option.isNone_some, Option.isNone_none, Bool.false_bne, Bool.bne_true, Bool.bne_false, Bool.true_bne, Bool.not_true, Bool.not_false, Bool.and_true, Bool.true_and, Bool.and_false, Bool.false_and, Bool.or_true, Bool.true_or, Bool.or_false, Bool.false_or, cond_true, cond_false, List.getElem?_toArray, List.getElem?_cons_zero, List.getElem?_cons_succ, Nat.zero_add, Nat.add_zero, Nat.reduceAdd, forall_const, as_blocks, as_names, Body.one, Body.isBlocks, Body.isNames]
    refine alloc_s hs4 (A_msg_blocks w4) fun g5 w5 hs5 => ?_
    refine St_msg_blocks (b := false) hs5 one_msg_blocks fun w6 hs6 => ?_
    refine al_names hs6 fun g7 w7 hs7 => ?_
    simp only [nilc_some, fad_mk, pik_true, pik_false, cnd_true, cnd_false, gif_same, gif_tf, gif_ft, gif_undef, bi_add, bi_sub, bi_mul, bi_eql, bi_neq, bi_lss, bi_leq, bi_gtr, bi_geq, notB_bool, cvi_int, lenS_mk, lenT_mk, ext0, ext1, ext2, nilP_mk, nilS_mk, fldv_agg, jn0_k, jn1_k, jn2_k, jn1_and, jn1_or, ex_some, Option.isNone_some, Option.isNone_none, Bool.false_bne, Bool.bne_true, Bool.bne_false, Bool.true_bne, Bool.not_true, Bool.not_false, Bool.and_true, Bool.true_and, Bool.and_false, Bool.false_and, Bool.or_true, Bool.true_or, Bool.or_false, Bool.false_or, cond_true, cond_false, List.getElem?_toArray, List.getElem?_cons_zero, List.getElem?_cons_succ, Nat.zero_add, Nat.add_zero, Nat.reduceAdd, forall_const, e0]
    cases hi : (m.ids.length == 0) <;> simp only [nilc_some, fad_mk, pik_true, pik_false, cnd_true, cnd_false, gif_same, gif_tf, gif_ft, gif_undef, bi_add, bi_sub, bi_mul, bi_eql, bi_neq, bi_lss, bi_leq, bi_gtr, bi_geq, notB_bool, cvi_int, lenS_mk, lenT_mk, ext0, ext1, ext2, nilP_mk, nilS_mk, fldv_agg, jn0_k, jn1_k, jn2_k, jn1_and, jn1_or, ex_some, Option.isNone_some, Option.isNone_none, Bool.false_bne, Bool.bne_true, Bool.bne_false, Bool.true_bne, Bool.not_true, Bool.not_false, Bool.and_true, Bool.true_and, Bool.and_false, Bool.false_and, Bool.or_true, Bool.true_or, Bool.or_false, Bool.false_or, cond_true, cond_false, List.getElem?_toArray, List.getElem?_cons_zero, List.getElem?_cons_succ, Nat.zero_add, Nat.add_zero, Nat.reduceAdd, forall_const] <;> exact fin _ _ hs7.fr0 (by simp [fitsM, hi])
  | nothing =>
    simp only [Body.isSome, nilc_some, fad_mk, pik_true, pik_false, cnd_true, cnd_false, gif_same, gif_tf, gif_ft, gif_undef, bi_add, bi_sub, bi_mul, bi_eql, bi_neq, bi_lss, bi_leq, bi_gtr, bi_geq, notB_bool, cvi_int, lenS_mk, lenT_mk, ext0, ext1, ext2, nilP_mk, nilS_mk, fldv_agg, jn0_k, jn1_k, jn2_k, jn1_and, jn1_or, ex_some, Option.isNone_some, Option.isNone_none, Bool.false_bne, Bool.bne_true, Bool.bne_false, Bool.true_bne, Bool.not_true, Bool.not_false, Bool.and_true, Bool.true_and, Bool.and_false, Bool.false_and, Bool.or_true, Bool.true_or, Bool.or_false, Bool.false_or, cond_true, cond_false, List.getElem?_toArray, List.getElem?_cons_zero, List.getElem?_cons_succ, Nat.zero_add, Nat.add_zero, Nat.reduceAdd, forall_const, as_blocks, as_names, Body.one, Body.isBlocks, Body.isNames]
    refine alloc_s hs4 (A_msg_blocks w4) fun g5 w5 hs5 => ?_
    refine St_msg_blocks (b := false) hs5 one_msg_blocks fun w6 hs6 => ?_
    refine al_names hs6 fun g7 w7 hs7 => ?_
    simp only [nilc_some, fad_mk, pik_true, pik_false, cnd_true, cnd_false, gif_same, gif_tf, gif_ft, gif_undef, bi_add, bi_sub, bi_mul, bi_eql, bi_neq, bi_lss, bi_leq, bi_gtr, bi_geq, notB_bool, cvi_int, lenS_mk, lenT_mk, ext0, ext1, ext2, nilP_mk, nilS_mk, fldv_agg, jn0_k, jn1_k, jn2_k, jn1_and, jn1_or, ex_some, Option.isNone_some, Option.isNone_none, Bool.false_bne, Bool.bne_true, Bool.bne_false, Bool.true_bne, Bool.not_true, Bool.not_false, Bool.and_true, Bool.true_and, Bool.and_false, Bool.false_and, Bool.or_true, Bool.true_or, Bool.or_false, Bool.false_or, cond_true, cond_false, List.getElem?_toArray, List.getElem?_cons_zero, List.getElem?_cons_succ, Nat.zero_add, Nat.add_zero, Nat.reduceAdd, forall_const, e0]
    cases hi : (m.ids.length == 0) <;> simp only [nilc_some, fad_mk, pik_true, pik_false, cnd_true, cnd_false, gif_same, gif_tf, gif_ft, gif_undef, bi_add, bi_sub, bi_mul, bi_eql, bi_neq, bi_lss, bi_leq, bi_gtr, bi_geq, notB_bool, cvi_int, lenS_mk, lenT_mk, ext0, ext1, ext2, nilP_mk, nilS_mk, fldv_agg, jn0_k, jn1_k, jn2_k, jn1_and, jn1_or, ex_some, Option.isNone_some, Option.isNone_none, Bool.false_bne, Bool.bne_true, Bool.bne_false, Bool.true_bne, Bool.not_true, Bool.not_false, Bool.and_true, Bool.true_and, Bool.and_false, Bool.false_and, Bool.or_true, Bool.true_or, Bool.or_false, Bool.false_or, cond_true, cond_false, List.getElem?_toArray, List.getElem?_cons_zero, List.getElem?_cons_succ, Nat.zero_add, Nat.add_zero, Nat.reduceAdd, forall_const] <;> exact fin _ _ hs7.fr0 (by simp [fitsM, hi])
/-- Whether any is too long. -/
theorem Index_spec (hr : BSl w.heap bv l) (hl : l.length ≤ 9223372036854775807) : cal P f_slices_ContainsFunc_byte_byte [bv, .func (.func f_msg_Check_1) #[] #[]] w fun r w' => r = .bool (l.any fun s => decide (246 < s.l.length)) ∧ Fr [] w w' := by
  refine s_slices_ContainsFunc_byte_byte fun R hR => ?_
  unfold c_slices_ContainsFunc_byte_byte
  refine cal_i (K' := fun r w' => ∃ i : Int, r = .int .i64 i ∧ decide (0 ≤ i) = (l.any fun s => decide (246 < s.l.length)) ∧ w = w') (s_slices_IndexFunc_byte_byte fun R hR => ?_) ?_
  · unfold c_slices_IndexFunc_byte_byte
    simp only [hr.len]
    refine ⟨fun x w' => ∃ i : Nat, x = .int .i64 i ∧ i ≤ l.length ∧ (∀ s ∈ l.take i, ¬ 246 < s.l.length) ∧ w' = w, fun x _ => (l.length - RowKit.intOf x).toNat, ⟨0, rfl, by omega, by simp, rfl⟩, ?_⟩
    rintro _ w1 ⟨i, rfl, hi, hall, rfl⟩ -
    simp only [nilc_some, fad_mk, pik_true, pik_false, cnd_true, cnd_false, gif_same, gif_tf, gif_ft, gif_undef, bi_add, bi_sub, bi_mul, bi_eql, bi_neq, bi_lss, bi_leq, bi_gtr, bi_geq, notB_bool, cvi_int, lenS_mk, lenT_mk, ext0, ext1, ext2, nilP_mk, nilS_mk, fldv_agg, jn0_k, jn1_k, jn2_k, jn1_and, jn1_or, ex_some, Option.isNone_some, Option.isNone_none, Bool.false_bne, Bool.bne_true, Bool.bne_false, Bool.true_bne, Bool.not_true, Bool.not_false, Bool.and_true, Bool.true_and, Bool.and_false, Bool.false_and, Bool.or_true, Bool.true_or, Bool.or_false, Bool.false_or, cond_true, cond_false, List.getElem?_toArray, List.getElem?_cons_zero, List.getElem?_cons_succ, Nat.zero_add, Nat.add_zero, Nat.reduceAdd, forall_const]
    rw [cnd_bool]
    refine ⟨fun h => ?_, fun h => ?_⟩
    · have hlt : i < l.length := by simp at h; omega
      have hx := List.getElem?_eq_getElem hlt
      generalize l[i] = s at hx
      have hm := List.mem_of_getElem? hx
      refine hr.ld hx .i64 ?_
      refine calV_i (first := []) (cap := []) (by kernel_rfl) (K' := fun r w' => r = .bool (decide (246 < s.l.length)) ∧ w1 = w') (s_msg_Check_1 fun R hR => ?_) ?_
      · unfold c_msg_Check_1
        rw [(hr.2 s hm).len, bi_gtr]
        have e : decide ((246 : Int) < s.l.length) = decide (246 < s.l.length) := by rw [decide_eq_decide]; omega
        rw [e]
        exact hR _ _ ⟨rfl, rfl⟩
      · rintro _ _ ⟨rfl, rfl⟩
        rw [cnd_bool]
        refine ⟨fun h2 => hR _ _ ⟨i, rfl, ?_, rfl⟩, fun h2 => ?_⟩
        · rw [decide_eq_true (by omega)]
          symm
          rw [List.any_eq_true]
          exact ⟨s, hm, h2⟩
        · rw [wi64 (by omega) (by omega)]
          refine ⟨⟨i + 1, by simp, by omega, ?_, rfl⟩, by simp [RowKit.intOf]; omega⟩
          intro y hy
          rw [List.take_add_one, hx] at hy
          rcases List.mem_append.1 hy with hy | hy
          · exact hall y hy
          · simp at hy; subst hy; simpa using h2
    · have hge : i = l.length := by simp at h; omega
      subst hge
      rw [List.take_length] at hall
      refine hR _ _ ⟨-1, rfl, ?_, rfl⟩
      rw [decide_eq_false (by omega)]
      symm
      rw [List.any_eq_false]
      intro s hs
      simpa using hall s hs
  · rintro _ _ ⟨i, rfl, hi, rfl⟩
    rw [bi_geq, hi]
    exact hR _ _ ⟨rfl, Fr.refl _ _⟩
theorem long_iff (hr : MR w.heap m iv bv l) : (l.any fun s => decide (246 < s.l.length)) = false ↔ ∀ b ∈ m.bs, b.length ≤ 246 := by
  rw [List.any_eq_false, hr.eq]
  simp only [decide_eq_true_eq, List.mem_map, forall_exists_index, and_imp, forall_apply_eq_imp_iff₂]
  exact ⟨fun h s hs => by have := h s hs; omega, fun h s hs => by have := h s hs; omega⟩
theorem body_nil (k : Int) : (kbody k).isNil = decide (¬ 0 ≤ (bearsR k).2.2) := by
  by_cases h : 1 ≤ k ∧ k ≤ 11
  · rcases k11 h with rfl | rfl | rfl | rfl | rfl | rfl | rfl | rfl | rfl | rfl | rfl <;> rfl
  · rw [kbody_no h, bearsR_no h]; rfl
theorem body_fits (m : Msg) (h : 0 ≤ m.how) : fitsM (kbody m.k) m.ids.length m.bs.length = decide m.few := by
  have hk := Msg.kinds h
  rw [Bool.eq_iff_iff, decide_eq_true_eq]
  unfold Msg.few
  unfold Msg.how at *
  generalize m.ids.length = a
  generalize m.bs.length = b
  rcases k11 hk with h | h | h | h | h | h | h | h | h | h | h <;> rw [h] <;> simp [bearsR, kbody, fitsM] <;> omega
theorem mCheck_spec (hr : MR w.heap m iv bv l) (hl : l.length ≤ 9223372036854775807) : cal P f_msg_Check [mq m iv bv] w fun r w' => r = .int .i64 m.chk ∧ Fr [] w w' := by
  refine s_msg_Check fun R hR => ?_
  unfold c_msg_Check
  refine bxA (Sep.start w) fun g w1 hs => ?_
  simp only [nilc_some, fad_mk, pik_true, pik_false, cnd_true, cnd_false, gif_same, gif_tf, gif_ft, gif_undef, bi_add, bi_sub, bi_mul, bi_eql, bi_neq, bi_lss, bi_leq, bi_gtr, bi_geq, notB_bool, cvi_int, lenS_mk, lenT_mk, ext0, ext1, ext2, nilP_mk, nilS_mk, fldv_agg, jn0_k, jn1_k, jn2_k, jn1_and, jn1_or, ex_some, Option.isNone_some, Option.isNone_none, Bool.false_bne, Bool.bne_true, Bool.bne_false, Bool.true_bne, Bool.not_true, Bool.not_false, Bool.and_true, Bool.true_and, Bool.and_false, Bool.false_and, Bool.or_true, Bool.true_or, Bool.or_false, Bool.false_or, cond_true, cond_false, List.getElem?_toArray, List.getElem?_cons_zero, List.getElem?_cons_succ, Nat.zero_add, Nat.add_zero, Nat.reduceAdd, forall_const, L_api_Msg hs.blk, L_api_Msg__Kind hs.blk, L_api_Msg__Req hs.blk, L_api_Msg__IDs hs.blk, L_api_Msg__Blocks hs.blk]
  refine cal_i (bears_spec m.k) ?_
  rintro _ _ ⟨rfl, rfl⟩
  have fin : ∀ (c : Int) (w' : World), Fr [] w w' → m.chk = c → R (.int .i64 c) w' := fun c w' hf hc => hR _ _ ⟨by rw [hc], hf⟩
  have bad : ∀ w' : World, Fr [] w w' → ¬ m.ok → R (.int .i64 40) w' := fun w' hf hn => fin 40 w' hf (by rw [Msg.chk, if_neg hn])
  rw [nil_body, body_nil]
  by_cases h0 : 0 ≤ (bearsR m.k).2.2
  · have h0' : 0 ≤ m.how := h0
    simp only [h0, not_true_eq_false, decide_false, nilc_some, fad_mk, pik_true, pik_false, cnd_true, cnd_false, gif_same, gif_tf, gif_ft, gif_undef, bi_add, bi_sub, bi_mul, bi_eql, bi_neq, bi_lss, bi_leq, bi_gtr, bi_geq, notB_bool, cvi_int, lenS_mk, lenT_mk, ext0, ext1, ext2, nilP_mk, nilS_mk, fldv_agg, jn0_k, jn1_k, jn2_k, jn1_and, jn1_or, ex_some, Option.isNone_some, Option.isNone_none, Bool.false_bne, Bool.bne_true, Bool.bne_false, Bool.true_bne, Bool.not_true, Bool.not_false, Bool.and_true, Bool.true_and, Bool.and_false, Bool.false_and, Bool.or_true, Bool.true_or, Bool.or_false, Bool.false_or, cond_true, cond_false, List.getElem?_toArray, List.getElem?_cons_zero, List.getElem?_cons_succ, Nat.zero_add, Nat.add_zero, Nat.reduceAdd, forall_const, L_api_Msg hs.blk, L_api_Msg__Kind hs.blk, L_api_Msg__Req hs.blk, L_api_Msg__IDs hs.blk, L_api_Msg__Blocks hs.blk]
    by_cases h1 : m.q < 0
    · simp only [h1, decide_true, nilc_some, fad_mk, pik_true, pik_false, cnd_true, cnd_false, gif_same, gif_tf, gif_ft, gif_undef, bi_add, bi_sub, bi_mul, bi_eql, bi_neq, bi_lss, bi_leq, bi_gtr, bi_geq, notB_bool, cvi_int, lenS_mk, lenT_mk, ext0, ext1, ext2, nilP_mk, nilS_mk, fldv_agg, jn0_k, jn1_k, jn2_k, jn1_and, jn1_or, ex_some, Option.isNone_some, Option.isNone_none, Bool.false_bne, Bool.bne_true, Bool.bne_false, Bool.true_bne, Bool.not_true, Bool.not_false, Bool.and_true, Bool.true_and, Bool.and_false, Bool.false_and, Bool.or_true, Bool.true_or, Bool.or_false, Bool.false_or, cond_true, cond_false, List.getElem?_toArray, List.getElem?_cons_zero, List.getElem?_cons_succ, Nat.zero_add, Nat.add_zero, Nat.reduceAdd, forall_const]
      exact bad _ hs.fr0 fun hk => by have := hk.2.1; omega
    · simp only [h1, decide_false, nilc_some, fad_mk, pik_true, pik_false, cnd_true, cnd_false, gif_same, gif_tf, gif_ft, gif_undef, bi_add, bi_sub, bi_mul, bi_eql, bi_neq, bi_lss, bi_leq, bi_gtr, bi_geq, notB_bool, cvi_int, lenS_mk, lenT_mk, ext0, ext1, ext2, nilP_mk, nilS_mk, fldv_agg, jn0_k, jn1_k, jn2_k, jn1_and, jn1_or, ex_some, Option.isNone_some, Option.isNone_none, Bool.false_bne, Bool.bne_true, Bool.bne_false, Bool.true_bne, Bool.not_true, Bool.not_false, Bool.and_true, Bool.true_and, Bool.and_false, Bool.false_and, Bool.or_true, Bool.true_or, Bool.or_false, Bool.false_or, cond_true, cond_false, List.getElem?_toArray, List.getElem?_cons_zero, List.getElem?_cons_succ, Nat.zero_add, Nat.add_zero, Nat.reduceAdd, forall_const, L_api_Msg hs.blk, L_api_Msg__Kind hs.blk, L_api_Msg__Req hs.blk, L_api_Msg__IDs hs.blk, L_api_Msg__Blocks hs.blk]
      by_cases h2 : 2147483647 < m.q
      · simp only [h2, decide_true, nilc_some, fad_mk, pik_true, pik_false, cnd_true, cnd_false, gif_same, gif_tf, gif_ft, gif_undef, bi_add, bi_sub, bi_mul, bi_eql, bi_neq, bi_lss, bi_leq, bi_gtr, bi_geq, notB_bool, cvi_int, lenS_mk, lenT_mk, ext0, ext1, ext2, nilP_mk, nilS_mk, fldv_agg, jn0_k, jn1_k, jn2_k, jn1_and, jn1_or, ex_some, Option.isNone_some, Option.isNone_none, Bool.false_bne, Bool.bne_true, Bool.bne_false, Bool.true_bne, Bool.not_true, Bool.not_false, Bool.and_true, Bool.true_and, Bool.and_false, Bool.false_and, Bool.or_true, Bool.true_or, Bool.or_false, Bool.false_or, cond_true, cond_false, List.getElem?_toArray, List.getElem?_cons_zero, List.getElem?_cons_succ, Nat.zero_add, Nat.add_zero, Nat.reduceAdd, forall_const]
        exact bad _ hs.fr0 fun hk => by have := hk.2.2.1; omega
      · simp only [h2, decide_false, nilc_some, fad_mk, pik_true, pik_false, cnd_true, cnd_false, gif_same, gif_tf, gif_ft, gif_undef, bi_add, bi_sub, bi_mul, bi_eql, bi_neq, bi_lss, bi_leq, bi_gtr, bi_geq, notB_bool, cvi_int, lenS_mk, lenT_mk, ext0, ext1, ext2, nilP_mk, nilS_mk, fldv_agg, jn0_k, jn1_k, jn2_k, jn1_and, jn1_or, ex_some, Option.isNone_some, Option.isNone_none, Bool.false_bne, Bool.bne_true, Bool.bne_false, Bool.true_bne, Bool.not_true, Bool.not_false, Bool.and_true, Bool.true_and, Bool.and_false, Bool.false_and, Bool.or_true, Bool.true_or, Bool.or_false, Bool.false_or, cond_true, cond_false, List.getElem?_toArray, List.getElem?_cons_zero, List.getElem?_cons_succ, Nat.zero_add, Nat.add_zero, Nat.reduceAdd, forall_const, L_api_Msg hs.blk, L_api_Msg__Kind hs.blk, L_api_Msg__Req hs.blk, L_api_Msg__IDs hs.blk, L_api_Msg__Blocks hs.blk]
        refine jn1_dup ?_
        refine cal_i (fits_spec (hs.mr hr) (kbody m.k)) ?_
        rintro _ w2 ⟨rfl, hf2⟩
        have hs2 := hs.old hf2
        rw [body_fits m h0']
        by_cases h3 : m.few
        · simp only [h3, decide_true, nilc_some, fad_mk, pik_true, pik_false, cnd_true, cnd_false, gif_same, gif_tf, gif_ft, gif_undef, bi_add, bi_sub, bi_mul, bi_eql, bi_neq, bi_lss, bi_leq, bi_gtr, bi_geq, notB_bool, cvi_int, lenS_mk, lenT_mk, ext0, ext1, ext2, nilP_mk, nilS_mk, fldv_agg, jn0_k, jn1_k, jn2_k, jn1_and, jn1_or, ex_some, Option.isNone_some, Option.isNone_none, Bool.false_bne, Bool.bne_true, Bool.bne_false, Bool.true_bne, Bool.not_true, Bool.not_false, Bool.and_true, Bool.true_and, Bool.and_false, Bool.false_and, Bool.or_true, Bool.true_or, Bool.or_false, Bool.false_or, cond_true, cond_false, List.getElem?_toArray, List.getElem?_cons_zero, List.getElem?_cons_succ, Nat.zero_add, Nat.add_zero, Nat.reduceAdd, forall_const, L_api_Msg hs2.blk, L_api_Msg__Kind hs2.blk, L_api_Msg__Req hs2.blk, L_api_Msg__IDs hs2.blk, L_api_Msg__Blocks hs2.blk]
          refine jn1_dup ?_
          refine cal_i (Index_spec (hs2.mr hr).bs hl) ?_
          rintro _ w3 ⟨rfl, hf3⟩
          have hs3 := hs2.old hf3
          cases h4 : (l.any fun s => decide (246 < s.l.length)) with
          | true =>
            simp only [nilc_some, fad_mk, pik_true, pik_false, cnd_true, cnd_false, gif_same, gif_tf, gif_ft, gif_undef, bi_add, bi_sub, bi_mul, bi_eql, bi_neq, bi_lss, bi_leq, bi_gtr, bi_geq, notB_bool, cvi_int, lenS_mk, lenT_mk, ext0, ext1, ext2, nilP_mk, nilS_mk, fldv_agg, jn0_k, jn1_k, jn2_k, jn1_and, jn1_or, ex_some, Option.isNone_some, Option.isNone_none, Bool.false_bne, Bool.bne_true, Bool.bne_false, Bool.true_bne, Bool.not_true, Bool.not_false, Bool.and_true, Bool.true_and, Bool.and_false, Bool.false_and, Bool.or_true, Bool.true_or, Bool.or_false, Bool.false_or, cond_true, cond_false, List.getElem?_toArray, List.getElem?_cons_zero, List.getElem?_cons_succ, Nat.zero_add, Nat.add_zero, Nat.reduceAdd, forall_const]
            refine bad _ hs3.fr0 fun hk => ?_
            rw [(long_iff hr).2 hk.2.2.2.2] at h4
            cases h4
          | false =>
            simp only [nilc_some, fad_mk, pik_true, pik_false, cnd_true, cnd_false, gif_same, gif_tf, gif_ft, gif_undef, bi_add, bi_sub, bi_mul, bi_eql, bi_neq, bi_lss, bi_leq, bi_gtr, bi_geq, notB_bool, cvi_int, lenS_mk, lenT_mk, ext0, ext1, ext2, nilP_mk, nilS_mk, fldv_agg, jn0_k, jn1_k, jn2_k, jn1_and, jn1_or, ex_some, Option.isNone_some, Option.isNone_none, Bool.false_bne, Bool.bne_true, Bool.bne_false, Bool.true_bne, Bool.not_true, Bool.not_false, Bool.and_true, Bool.true_and, Bool.and_false, Bool.false_and, Bool.or_true, Bool.true_or, Bool.or_false, Bool.false_or, cond_true, cond_false, List.getElem?_toArray, List.getElem?_cons_zero, List.getElem?_cons_succ, Nat.zero_add, Nat.add_zero, Nat.reduceAdd, forall_const]
            exact fin 0 _ hs3.fr0 (Msg.chk_ok.2 ⟨h0', by omega, by omega, h3, (long_iff hr).1 h4⟩)
        · simp only [h3, decide_false, nilc_some, fad_mk, pik_true, pik_false, cnd_true, cnd_false, gif_same, gif_tf, gif_ft, gif_undef, bi_add, bi_sub, bi_mul, bi_eql, bi_neq, bi_lss, bi_leq, bi_gtr, bi_geq, notB_bool, cvi_int, lenS_mk, lenT_mk, ext0, ext1, ext2, nilP_mk, nilS_mk, fldv_agg, jn0_k, jn1_k, jn2_k, jn1_and, jn1_or, ex_some, Option.isNone_some, Option.isNone_none, Bool.false_bne, Bool.bne_true, Bool.bne_false, Bool.true_bne, Bool.not_true, Bool.not_false, Bool.and_true, Bool.true_and, Bool.and_false, Bool.false_and, Bool.or_true, Bool.true_or, Bool.or_false, Bool.false_or, cond_true, cond_false, List.getElem?_toArray, List.getElem?_cons_zero, List.getElem?_cons_succ, Nat.zero_add, Nat.add_zero, Nat.reduceAdd, forall_const]
          exact bad _ hs2.fr0 fun hk => h3 hk.2.2.2.1
  · simp only [h0, not_false_eq_true, decide_true, nilc_some, fad_mk, pik_true, pik_false, cnd_true, cnd_false, gif_same, gif_tf, gif_ft, gif_undef, bi_add, bi_sub, bi_mul, bi_eql, bi_neq, bi_lss, bi_leq, bi_gtr, bi_geq, notB_bool, cvi_int, lenS_mk, lenT_mk, ext0, ext1, ext2, nilP_mk, nilS_mk, fldv_agg, jn0_k, jn1_k, jn2_k, jn1_and, jn1_or, ex_some, Option.isNone_some, Option.isNone_none, Bool.false_bne, Bool.bne_true, Bool.bne_false, Bool.true_bne, Bool.not_true, Bool.not_false, Bool.and_true, Bool.true_and, Bool.and_false, Bool.false_and, Bool.or_true, Bool.true_or, Bool.or_false, Bool.false_or, cond_true, cond_false, List.getElem?_toArray, List.getElem?_cons_zero, List.getElem?_cons_succ, Nat.zero_add, Nat.add_zero, Nat.reduceAdd, forall_const]
    exact bad _ hs.fr0 fun hk => h0 hk.1
end
end Go.Fx
