/-
  The readings' rules: what a primitive comes to at values that are known; what stays in memory; slices that are read, and slices that a call owns.
-/
import Derived.Test.YticmbeincpaaeaaDoorFxE
set_option linter.unusedVariables false
set_option linter.unusedSimpArgs false
namespace Go.Fx

/-! ### Pure primitives at known values -/
theorem nilc_some (a : Addr) (K : Value → Prop) : nilc (.pointer (some a)) K = K (.pointer (some a)) := propext ⟨fun h => h.2, fun h => ⟨⟨a, rfl⟩, h⟩⟩
theorem fad_mk (n g o : Nat) (K : Value → Prop) : fad n (.pointer (some ⟨g, o, none⟩)) K = K (.pointer (some ⟨g, o + n, none⟩)) :=
  propext ⟨fun ⟨g', o', h, hk⟩ => by simp only [Value.pointer.injEq, Option.some.injEq, Addr.mk.injEq, and_true] at h; obtain ⟨rfl, rfl⟩ := h; exact hk, fun h => ⟨g, o, rfl, h⟩⟩
theorem pik_bool (t : Bool) (a b : Value) (K : Value → Prop) : pik (.bool t) a b K = K (bif t then a else b) :=
  propext ⟨fun ⟨t', h, hk⟩ => by cases h; exact hk, fun h => ⟨t, rfl, h⟩⟩
theorem pik_true (a b : Value) (K : Value → Prop) : pik (.bool true) a b K = K a := by rw [pik_bool]; rfl
theorem pik_false (a b : Value) (K : Value → Prop) : pik (.bool false) a b K = K b := by rw [pik_bool]; rfl
theorem cnd_bool (b : Bool) (x y : Prop) : cnd (.bool b) x y = ((b = true → x) ∧ (b = false → y)) :=
  propext ⟨fun ⟨b', h, hk⟩ => by cases h; exact hk, fun h => ⟨b, rfl, h⟩⟩
theorem cnd_true (x y : Prop) : cnd (.bool true) x y = x := by simp [cnd_bool]
theorem cnd_false (x y : Prop) : cnd (.bool false) x y = y := by simp [cnd_bool]
theorem gif_same (b : Bool) (x y : Prop) : gif (.bool b) b x y = x := by simp [gif]
theorem gif_tf (x y : Prop) : gif (.bool true) false x y = y := by simp [gif]
theorem gif_ft (x y : Prop) : gif (.bool false) true x y = y := by simp [gif]
theorem gif_undef (b : Bool) (x y : Prop) : gif undef b x y = y := by simp [gif, undef]
theorem gif_bool (c b : Bool) (x y : Prop) : gif (.bool c) b x y = ((c = b → x) ∧ (c ≠ b → y)) := by simp [gif]
theorem bi_int (op : BinOp) (k : IntKind) (a b : Int) (K : Value → Prop) : bi op (.int k a) (.int k b) K = ∃ v, biv op k a b = some v ∧ K v :=
  propext ⟨fun ⟨k', a', b', v, h1, h2, hv, hk⟩ => by cases h1; cases h2; exact ⟨v, hv, hk⟩, fun ⟨v, hv, hk⟩ => ⟨k, a, b, v, rfl, rfl, hv, hk⟩⟩
theorem ex_some (v : Value) (K : Value → Prop) : (∃ u, some v = some u ∧ K u) = K v := propext ⟨fun ⟨u, h, hk⟩ => by cases h; exact hk, fun h => ⟨v, rfl, h⟩⟩
section
variable (k : IntKind) (a b : Int) (K : Value → Prop)
theorem bi_add : bi .add (.int k a) (.int k b) K = K (.int k (k.wrap (a + b))) := by rw [bi_int]; exact ex_some _ K
theorem bi_sub : bi .sub (.int k a) (.int k b) K = K (.int k (k.wrap (a - b))) := by rw [bi_int]; exact ex_some _ K
theorem bi_mul : bi .mul (.int k a) (.int k b) K = K (.int k (k.wrap (a * b))) := by rw [bi_int]; exact ex_some _ K
theorem bi_quo (h : b ≠ 0) : bi .quo (.int k a) (.int k b) K = K (.int k (k.wrap (a.tdiv b))) := by rw [bi_int]; simp only [biv, h, if_false]; exact ex_some _ K
theorem bi_rem (h : b ≠ 0) : bi .rem (.int k a) (.int k b) K = K (.int k (a.tmod b)) := by rw [bi_int]; simp only [biv, h, if_false]; exact ex_some _ K
theorem bi_eql : bi .eql (.int k a) (.int k b) K = K (.bool (a == b)) := by rw [bi_int]; exact ex_some _ K
theorem bi_neq : bi .neq (.int k a) (.int k b) K = K (.bool (a != b)) := by rw [bi_int]; exact ex_some _ K
theorem bi_lss : bi .lss (.int k a) (.int k b) K = K (.bool (decide (a < b))) := by rw [bi_int]; exact ex_some _ K
theorem bi_leq : bi .leq (.int k a) (.int k b) K = K (.bool (decide (a ≤ b))) := by rw [bi_int]; exact ex_some _ K
theorem bi_gtr : bi .gtr (.int k a) (.int k b) K = K (.bool (decide (b < a))) := by rw [bi_int]; exact ex_some _ K
theorem bi_geq : bi .geq (.int k a) (.int k b) K = K (.bool (decide (b ≤ a))) := by rw [bi_int]; exact ex_some _ K
theorem sh_shl (j : IntKind) (h : 0 ≤ b) : sh .shl (.int k a) (.int j b) K = K (.int k (k.wrap (a * 2 ^ (min b.toNat k.bits)))) := by
  have h' : ¬ b < 0 := by omega
  refine propext ⟨fun ⟨_, _, _, _, v, h1, h2, hv, hk⟩ => ?_, fun hk => ⟨k, j, a, b, _, rfl, rfl, by simp [shv, h'], hk⟩⟩
  cases h1; cases h2
  simp only [shv, h', if_false, Option.some.injEq] at hv
  subst hv
  exact hk
theorem sh_shr (j : IntKind) (h : 0 ≤ b) : sh .shr (.int k a) (.int j b) K = K (.int k (a.fdiv (2 ^ (min b.toNat k.bits)))) := by
  have h' : ¬ b < 0 := by omega
  refine propext ⟨fun ⟨_, _, _, _, v, h1, h2, hv, hk⟩ => ?_, fun hk => ⟨k, j, a, b, _, rfl, rfl, by simp [shv, h'], hk⟩⟩
  cases h1; cases h2
  simp only [shv, h', if_false, Option.some.injEq] at hv
  subst hv
  exact hk
end
theorem notB_bool (b : Bool) (K : Value → Prop) : notB (.bool b) K = K (.bool !b) := propext ⟨fun ⟨_, h, hk⟩ => by cases h; exact hk, fun h => ⟨b, rfl, h⟩⟩
theorem cvi_int (k j : IntKind) (n : Int) (K : Value → Prop) : cvi k (.int j n) K = K (.int k (k.wrap n)) := propext ⟨fun ⟨_, _, h, hk⟩ => by cases h; exact hk, fun h => ⟨j, n, rfl, h⟩⟩
theorem lenS_mk (a : Option Addr) (n c : Nat) (K : Value → Prop) : lenS (.slice a n c) K = K (.int .i64 n) := propext ⟨fun ⟨_, _, _, h, hk⟩ => by cases h; exact hk, fun h => ⟨a, n, c, rfl, h⟩⟩
theorem lenT_mk (s : ByteArray) (K : Value → Prop) : lenT (.string s) K = K (.int .i64 s.size) := propext ⟨fun ⟨_, h, hk⟩ => by cases h; exact hk, fun h => ⟨s, rfl, h⟩⟩
theorem ext_mk (i : Nat) (vs : Array Value) (K : Value → Prop) : ext i (.tuple vs) K = ∃ v, vs[i]? = some v ∧ K v := propext ⟨fun ⟨_, v, h, hv, hk⟩ => by cases h; exact ⟨v, hv, hk⟩, fun ⟨v, hv, hk⟩ => ⟨vs, v, rfl, hv, hk⟩⟩
theorem ext0 (a : Value) (l : List Value) (K : Value → Prop) : ext 0 (.tuple (a :: l).toArray) K = K a := by rw [ext_mk]; simp
theorem ext1 (a b : Value) (l : List Value) (K : Value → Prop) : ext 1 (.tuple (a :: b :: l).toArray) K = K b := by rw [ext_mk]; simp
theorem ext2 (a b c : Value) (l : List Value) (K : Value → Prop) : ext 2 (.tuple (a :: b :: c :: l).toArray) K = K c := by rw [ext_mk]; simp
theorem nilP_mk (neg : Bool) (p : Option Addr) (K : Value → Prop) : nilP neg (.pointer p) K = K (.bool (p.isNone != neg)) := propext ⟨fun ⟨_, h, hk⟩ => by cases h; exact hk, fun h => ⟨p, rfl, h⟩⟩
theorem nilS_mk (neg : Bool) (a : Option Addr) (n c : Nat) (K : Value → Prop) : nilS neg (.slice a n c) K = K (.bool (a.isNone != neg)) :=
  propext ⟨fun ⟨_, _, _, h, hk⟩ => by cases h; exact hk, fun h => ⟨a, n, c, rfl, h⟩⟩
theorem fldv_agg (off n : Nat) (b : Bool) (cs : Array Value) (K : Value → Prop) : fldv off n b (.agg cs) K = cellOf b cs off n K := propext ⟨fun ⟨_, h, hk⟩ => by cases h; exact hk, fun h => ⟨cs, rfl, h⟩⟩
theorem cellOf_false (cs : Array Value) (off n : Nat) (K : Value → Prop) : cellOf false cs off n K = ∃ v, cs[off]? = some v ∧ K v := rfl
theorem cellOf_true (cs : Array Value) (off n : Nat) (K : Value → Prop) : cellOf true cs off n K = (off + n ≤ cs.size ∧ K (.agg (cs.extract off (off + n)))) := rfl
theorem ixs_mk (size g o n c : Nat) (k : IntKind) (j : Int) (K : Value → Prop) (h0 : 0 ≤ j) (h1 : j < n) : ixs size (.slice (some ⟨g, o, none⟩) n c) (.int k j) K = K (.pointer (some ⟨g, o + j.toNat * size, none⟩)) :=
  propext ⟨fun ⟨_, _, _, _, _, _, h, h', _, _, hk⟩ => by cases h; cases h'; exact hk, fun h => ⟨g, o, n, c, k, j, rfl, rfl, h0, h1, h⟩⟩
theorem ixa_mk (len size g o : Nat) (k : IntKind) (j : Int) (K : Value → Prop) (h0 : 0 ≤ j) (h1 : j < len) : ixa len size (.pointer (some ⟨g, o, none⟩)) (.int k j) K = K (.pointer (some ⟨g, o + j.toNat * size, none⟩)) :=
  propext ⟨fun ⟨_, _, _, _, h, h', _, _, hk⟩ => by cases h; cases h'; exact hk, fun h => ⟨g, o, k, j, rfl, rfl, h0, h1, h⟩⟩
theorem jn1_k (a : Value) (w : World) (rest : Env → Value → World → Prop) : jn1 (fun k => k a w) rest = ∀ junk, rest junk a w :=
  propext ⟨fun ⟨_, h, hr⟩ => hr _ _ h, fun h => ⟨fun a' w' => a' = a ∧ w' = w, ⟨rfl, rfl⟩, fun a' w' ⟨ha, hw⟩ => by subst ha; subst hw; exact h⟩⟩
theorem jn0_k (w : World) (rest : Env → World → Prop) : jn0 (fun k => k w) rest = ∀ junk, rest junk w :=
  propext ⟨fun ⟨_, h, hr⟩ => hr _ h, fun h => ⟨fun w' => w' = w, rfl, fun w' hw => by subst hw; exact h⟩⟩
theorem jn2_k (a b : Value) (w : World) (rest : Env → Value → Value → World → Prop) : jn2 (fun k => k a b w) rest = ∀ junk, rest junk a b w :=
  propext ⟨fun ⟨_, h, hr⟩ => hr _ _ _ h, fun h => ⟨fun a' b' w' => a' = a ∧ b' = b ∧ w' = w, ⟨rfl, rfl, rfl⟩, fun a' b' w' ⟨ha, hb, hw⟩ => by subst ha; subst hb; subst hw; exact h⟩⟩
/-- 'a && b', b without calls. -/
theorem jn1_and (c d : Bool) (w : World) (K : Env → Value → World → Prop) :
    jn1 (fun k => gif (.bool c) true (k (.bool d) w) (k undef w)) (fun j t w' => pik (.bool c) t (.bool false) fun r => K j r w') = ∀ j, K j (.bool (c && d)) w := by
  cases c
  · simp only [gif_ft, jn1_k, pik_bool, cond_false, Bool.false_and]
  · simp only [gif_same, jn1_k, pik_bool, cond_true, Bool.true_and]
/-- 'a || b', b without calls. -/
theorem jn1_or (c d : Bool) (w : World) (K : Env → Value → World → Prop) :
    jn1 (fun k => gif (.bool c) false (k (.bool d) w) (k undef w)) (fun j t w' => pik (.bool c) (.bool true) t fun r => K j r w') = ∀ j, K j (.bool (c || d)) w := by
  cases c
  · simp only [gif_same, jn1_k, pik_bool, cond_false, Bool.false_or]
  · simp only [gif_tf, jn1_k, pik_bool, cond_true, Bool.true_or]
/-- A join read twice. -/
theorem jn0_dup {body : (World → Prop) → Prop} {rest : Env → World → Prop} (h : body fun w => ∀ junk, rest junk w) : jn0 body rest := ⟨_, h, fun _ h => h⟩
theorem jn1_dup {body : (Value → World → Prop) → Prop} {rest : Env → Value → World → Prop} (h : body fun a w => ∀ junk, rest junk a w) : jn1 body rest := ⟨_, h, fun _ _ h => h⟩
theorem jn2_dup {body : (Value → Value → World → Prop) → Prop} {rest : Env → Value → Value → World → Prop} (h : body fun a b w => ∀ junk, rest junk a b w) : jn2 body rest := ⟨_, h, fun _ _ _ h => h⟩
theorem jn3_dup {body : (Value → Value → Value → World → Prop) → Prop} {rest : Env → Value → Value → Value → World → Prop} (h : body fun a b c w => ∀ junk, rest junk a b c w) : jn3 body rest := ⟨_, h, fun _ _ _ _ h => h⟩

/-! ### Memory -/
abbrev Heap := Array Obj
/-- All blocks that were there are as they were, but for those of F. -/
structure Fr (F : List Nat) (w w' : World) : Prop where
  size : w.heap.size ≤ w'.heap.size
  keep : ∀ k, k < w.heap.size → k ∉ F → w'.heap[k]? = w.heap[k]?
  os : w'.os = w.os
  out : w'.output = w.output
  tape : w'.tape = w.tape
theorem Fr.refl (F : List Nat) (w : World) : Fr F w w := ⟨Nat.le_refl _, fun _ _ _ => rfl, rfl, rfl, rfl⟩
theorem Fr.trans {F G H : List Nat} {w w1 w2 : World} (h : Fr F w w1) (k : Fr G w1 w2) (hF : ∀ i ∈ F, i ∈ H ∨ w.heap.size ≤ i) (hG : ∀ i ∈ G, i ∈ H ∨ w.heap.size ≤ i) : Fr H w w2 :=
  ⟨Nat.le_trans h.size k.size, fun i hi hn => by
    rw [k.keep i (Nat.lt_of_lt_of_le hi h.size) (fun hg => (hG i hg).elim hn (fun h => by omega)), h.keep i hi (fun hf => (hF i hf).elim hn (fun h => by omega))],
    k.os.trans h.os, k.out.trans h.out, k.tape.trans h.tape⟩
theorem Fr.mono {F H : List Nat} {w w1 : World} (h : Fr F w w1) (hF : ∀ i ∈ F, i ∈ H ∨ w.heap.size ≤ i) : Fr H w w1 := h.trans (Fr.refl [] w1) hF (by simp)
theorem Fr.drew {F : List Nat} {w w1 : World} (h : Fr F w w1) (d : Nat) : Fr F w { w1 with drawn := d } := ⟨h.size, h.keep, h.os, h.out, h.tape⟩
theorem Fr.ofDrew {F : List Nat} {w w1 : World} {d : Nat} (h : Fr F { w with drawn := d } w1) : Fr F w w1 := ⟨h.size, h.keep, h.os, h.out, h.tape⟩
theorem Fr.below {F : List Nat} {w w' : World} (h : Fr F w w') (hF : ∀ i ∈ F, w.heap.size ≤ i) : RowKit.Below w.heap.size w w' :=
  ⟨h.os, h.tape, h.out, h.size, fun k hk => h.keep k hk fun hm => by have := hF k hm; omega⟩
theorem lt_of_blk {h : Heap} {k : Nat} {o : Obj} (hk : h[k]? = some o) : k < h.size := (Array.getElem?_eq_some_iff.1 hk).1
theorem Fr.blk {F : List Nat} {w w' : World} {k : Nat} {o : Obj} (h : Fr F w w') (hk : w.heap[k]? = some o) (hn : k ∉ F) : w'.heap[k]? = some o := by
  rw [h.keep k (lt_of_blk hk) hn]; exact hk
theorem fr_setBlk (w : World) (g : Nat) (o : Obj) : Fr [g] w (setBlk w g o) := ⟨by simp [setBlk], fun k _ hk => setBlk_ne w o (by simpa using hk), rfl, rfl, rfl⟩
theorem fr_alloc (w : World) (o : Obj) : Fr [] w (w.alloc o) := ⟨by simp, fun k hk _ => RowKit.Below.heap_alloc w o k hk, rfl, rfl, rfl⟩
theorem alloc_new (w : World) (o : Obj) : (w.alloc o).heap[w.heap.size]? = some o := heap_alloc_new w o

/-- F' is F with blocks that were not there. -/
def Grew (w : World) (F F' : List Nat) : Prop := ∀ k ∈ F', k ∈ F ∨ w.heap.size ≤ k
theorem Grew.refl (w : World) (F : List Nat) : Grew w F F := fun k hk => .inl hk
theorem Grew.not {w : World} {F F' : List Nat} {g : Nat} (h : Grew w F F') (hg : g ∉ F) (hlt : g < w.heap.size) : g ∉ F' := fun hm => (h g hm).elim hg (fun hh => by omega)
theorem Grew.trans {w w1 : World} {F F1 F2 : List Nat} (h : Grew w F F1) (hs : w.heap.size ≤ w1.heap.size) (k : Grew w1 F1 F2) : Grew w F F2 := fun i hi => (k i hi).elim (h i) (fun hh => .inr (Nat.le_trans hs hh))
theorem Grew.cons {w : World} {F F' : List Nat} (h : Grew w F F') (g : Nat) : Grew w (g :: F) (g :: F') := by
  intro k hk
  rcases List.mem_cons.1 hk with rfl | hk
  · exact .inl (by simp)
  · exact (h k hk).imp (by simp +contextual) id
theorem Grew.append {w : World} {F F' G G' : List Nat} (h : Grew w F F') (k : Grew w G G') : Grew w (F ++ G) (F' ++ G') := by
  intro i hi
  rcases List.mem_append.1 hi with hi | hi
  · exact (h i hi).imp (by simp +contextual) id
  · exact (k i hi).imp (by simp +contextual) id
theorem Grew.sub {w : World} {F G F' : List Nat} (h : Grew w F F') (hs : ∀ k ∈ F, k ∈ G) : Grew w G F' := fun k hk => (h k hk).imp (hs k) id
theorem Grew.new {w : World} {g : Nat} (h : w.heap.size ≤ g) (F : List Nat) : Grew w F [g] := fun k hk => .inr (by simp at hk; omega)
theorem Grew.disj {w : World} {F F' G : List Nat} (h : Grew w F F') (hd : ∀ k ∈ F, k ∉ G) (hlt : ∀ k ∈ G, k < w.heap.size) : ∀ k ∈ F', k ∉ G :=
  fun k hk hm => (h k hk).elim (fun hf => hd k hf hm) (fun hh => by have := hlt k hm; omega)
/-- One step behind the other, the second on what the first may have made. -/
theorem Fr.seq {F F1 : List Nat} {w w1 w2 : World} (h : Fr F w w1) (k : Fr F1 w1 w2) (hg : Grew w F F1) : Fr F w w2 := h.trans k (fun i hi => .inl hi) hg
theorem Fr.sub {F G : List Nat} {w w1 : World} (h : Fr F w w1) (hs : ∀ k ∈ F, k ∈ G) : Fr G w w1 := h.mono fun i hi => .inl (hs i hi)
theorem ld1_i {g o : Nat} {h : Heap} {cur : Array Value} {t : TypeId} {fr : Nat × Nat} {v : Value} {K : Value → Prop} (hg : h[g]? = some (.cells cur t fr)) (hv : cur[o]? = some v) (hk : K v) :
    ld1 (.pointer (some ⟨g, o, none⟩)) h K := ⟨g, o, cur, t, fr, v, rfl, hg, hv, hk⟩
theorem ldN_i {n g o : Nat} {h : Heap} {cur : Array Value} {t : TypeId} {fr : Nat × Nat} {K : Value → Prop} (hg : h[g]? = some (.cells cur t fr)) (hn : o + n ≤ cur.size) (hk : K (.agg (cur.extract o (o + n)))) :
    ldN n (.pointer (some ⟨g, o, none⟩)) h K := ⟨g, o, cur, t, fr, rfl, hg, hn, hk⟩
theorem ld1_eq {g o : Nat} {h : Heap} {cur : Array Value} {t : TypeId} {fr : Nat × Nat} (hg : h[g]? = some (.cells cur t fr)) (K : Value → Prop) :
    ld1 (.pointer (some ⟨g, o, none⟩)) h K = ∃ v, cur[o]? = some v ∧ K v :=
  propext ⟨fun ⟨_, _, _, _, _, v, h, hg', hv, hk⟩ => by cases h; rw [hg] at hg'; cases hg'; exact ⟨v, hv, hk⟩, fun ⟨v, hv, hk⟩ => ld1_i hg hv hk⟩
theorem ldN_eq {n g o : Nat} {h : Heap} {cur : Array Value} {t : TypeId} {fr : Nat × Nat} (hg : h[g]? = some (.cells cur t fr)) (K : Value → Prop) :
    ldN n (.pointer (some ⟨g, o, none⟩)) h K = (o + n ≤ cur.size ∧ K (.agg (cur.extract o (o + n)))) :=
  propext ⟨fun ⟨_, _, _, _, _, h, hg', hn, hk⟩ => by cases h; rw [hg] at hg'; cases hg'; exact ⟨hn, hk⟩, fun ⟨hn, hk⟩ => ⟨g, o, cur, t, fr, rfl, hg, hn, hk⟩⟩
theorem st1_i {g o : Nat} {w : World} {cur : Array Value} {t : TypeId} {v : Value} {K : World → Prop} (hg : w.heap[g]? = some (.cells cur t (0, 0))) (ho : o < cur.size) (hv : v.oneCell' = true)
    (h : ∀ w', w'.heap[g]? = some (.cells (cur.setIfInBounds o v) t (0, 0)) → Fr [g] w w' → K w') : st1 (.pointer (some ⟨g, o, none⟩)) v w K :=
  ⟨g, o, cur, t, rfl, hg, ho, hv, h _ (setBlk_self w g _ _ hg) (fr_setBlk w g _)⟩
theorem stN_i {n g o : Nat} {w : World} {cur cs : Array Value} {t : TypeId} {K : World → Prop} (hg : w.heap[g]? = some (.cells cur t (0, 0))) (hn : cs.size = n) (ho : o + n ≤ cur.size) (hv : ∀ u ∈ cs.toList, u.oneCell' = true)
    (h : ∀ w', w'.heap[g]? = some (.cells (splice cur o cs.toList) t (0, 0)) → Fr [g] w w' → K w') : stN n (.pointer (some ⟨g, o, none⟩)) (.agg cs) w K :=
  ⟨g, o, cur, t, cs, rfl, rfl, hn, hg, ho, hv, h _ (setBlk_self w g _ _ hg) (fr_setBlk w g _)⟩
theorem bx_i {t : TypeId} {v : Value} {w : World} {K : Value → World → Prop} (h : ∀ w' g, g = w.heap.size → w'.heap[g]? = some (.cells v.cells t (0, 0)) → Fr [] w w' → K (.pointer (some ⟨g, 0, none⟩)) w') : bx t v w K :=
  h _ _ rfl (alloc_new w _) (fr_alloc w _)
theorem cal_i {f : FuncId} {args : List Value} {w : World} {P : Program} {K K' : Value → World → Prop} (h : cal P f args w K') (hk : ∀ v w', K' v w' → K v w') : cal P f args w K :=
  Calls.mono h fun e w' ⟨v, he, hv⟩ => ⟨v, he, hk _ _ hv⟩
theorem calV_i {f : FuncId} {first cap : List Value} {args : List Value} {w : World} {P : Program} {K K' : Value → World → Prop} (hc : callable P f = true) (h : cal P f (first ++ args ++ cap) w K') (hk : ∀ v w', K' v w' → K v w') :
    calV P (.func (.func f) first.toArray cap.toArray) args w K :=
  ⟨f, first.toArray, cap.toArray, rfl, hc, by
    have : (first ++ args ++ cap).toArray = first.toArray ++ args.toArray ++ cap.toArray := by simp
    rw [← this]; exact cal_i h hk⟩

/-! ### Slices that are read -/
/-- A slice of n elements of 'size' cells each reads as these cells. -/
def Cel (h : Heap) (v : Value) (size n : Nat) (cs : List Value) : Prop :=
  ∃ a c, v = .slice a n c ∧ cs.length = n * size ∧ (n * size = 0 ∨ ∃ g o cur t fr, a = some ⟨g, o, none⟩ ∧ h[g]? = some (.cells cur t fr) ∧ (cur.toList.drop o).take (n * size) = cs)
/-- The blocks that reading a slice meets are outside F. -/
def Off (v : Value) (F : List Nat) : Prop := ∀ g o n c, v = .slice (some ⟨g, o, none⟩) n c → n ≠ 0 → g ∉ F
theorem Cel.fr {F : List Nat} {w w' : World} {v : Value} {size n : Nat} {cs : List Value} (h : Cel w.heap v size n cs) (hf : Fr F w w') (ho : Off v F) : Cel w'.heap v size n cs := by
  obtain ⟨a, c, rfl, hl, h⟩ := h
  refine ⟨a, c, rfl, hl, ?_⟩
  rcases h with h | ⟨g, o, cur, t, fr, rfl, hg, hc⟩
  · exact .inl h
  · by_cases hn : n = 0
    · exact .inl (by simp [hn])
    · exact .inr ⟨g, o, cur, t, fr, rfl, hf.blk hg (ho g o n c rfl hn), hc⟩
theorem Cel.load {P : Program} {w : World} {v : Value} {size n : Nat} {cs : List Value} (h : Cel w.heap v size n cs) : (Builtin.firstCells size n v).run P w = .ok cs.toArray w := by
  obtain ⟨a, c, rfl, hl, h⟩ := h
  rcases h with h | ⟨g, o, cur, t, fr, rfl, hg, hc⟩
  · have h0 : cs = [] := List.eq_nil_of_length_eq_zero (by omega)
    subst h0
    cases a with
    | none => simp [Builtin.firstCells]
    | some a => simp [Builtin.firstCells, h, loadCells, loadCellsFrom]
  · have hfit : o + n * size ≤ cur.size ∨ n * size = 0 := by
      have hlen := congrArg List.length hc
      simp only [List.length_take, List.length_drop, Array.length_toList] at hlen
      omega
    rcases hfit with hfit | h0
    · simp only [Builtin.firstCells, loadCells_ext hg hfit]
      congr 1
      apply Array.ext'
      rw [← hc, Array.toList_extract]
      simp [List.extract_eq_take_drop]
    · have h0' : cs = [] := List.eq_nil_of_length_eq_zero (by omega)
      subst h0'
      simp [Builtin.firstCells, h0, loadCells, loadCellsFrom]
/-- A slice that a call owns: nothing else looks at its block (F). -/
def Own (h : Heap) (v : Value) (size n : Nat) (cs : List Value) (F : List Nat) : Prop :=
  cs.length = n * size ∧ ((v = .slice none 0 0 ∧ n = 0 ∧ F = []) ∨
    ∃ g o cap cur E, v = .slice (some ⟨g, o, none⟩) n cap ∧ n ≤ cap ∧ h[g]? = some (.cells cur E (0, 0)) ∧ o + cap * size ≤ cur.size ∧ (cur.toList.drop o).take (n * size) = cs ∧ F = [g])
theorem Own.cel {h : Heap} {v : Value} {size n : Nat} {cs : List Value} {F : List Nat} (ho : Own h v size n cs F) : Cel h v size n cs := by
  obtain ⟨hl, ⟨rfl, rfl, rfl⟩ | ⟨g, o, cap, cur, E, rfl, hn, hg, hfit, hc, rfl⟩⟩ := ho
  · exact ⟨none, 0, rfl, hl, .inl (by simp)⟩
  · exact ⟨_, cap, rfl, hl, .inr ⟨g, o, cur, E, (0, 0), rfl, hg, hc⟩⟩
theorem Own.lt {h : Heap} {v : Value} {size n : Nat} {cs : List Value} {F : List Nat} (ho : Own h v size n cs F) : ∀ k ∈ F, k < h.size := by
  obtain ⟨hl, ⟨rfl, rfl, rfl⟩ | ⟨g, o, cap, cur, E, rfl, hn, hg, hfit, hc, rfl⟩⟩ := ho
  · simp
  · intro k hk
    obtain rfl : k = g := by simpa using hk
    exact lt_of_blk hg
theorem Own.fr {F G : List Nat} {w w' : World} {v : Value} {size n : Nat} {cs : List Value} (h : Own w.heap v size n cs F) (hf : Fr G w w') (hd : ∀ k ∈ F, k ∉ G) : Own w'.heap v size n cs F := by
  obtain ⟨hl, ⟨rfl, rfl, rfl⟩ | ⟨g, o, cap, cur, E, rfl, hn, hg, hfit, hc, rfl⟩⟩ := h
  · exact ⟨hl, .inl ⟨rfl, rfl, rfl⟩⟩
  · exact ⟨hl, .inr ⟨g, o, cap, cur, E, rfl, hn, hf.blk hg (hd g (by simp)), hfit, hc, rfl⟩⟩
theorem Own.nil (h : Heap) (size : Nat) : Own h (.slice none 0 0) size 0 [] [] := ⟨by simp, .inl ⟨rfl, rfl, rfl⟩⟩
theorem Own.slice {h : Heap} {v : Value} {size n : Nat} {cs : List Value} {F : List Nat} (ho : Own h v size n cs F) : ∃ a c, v = .slice a n c := by
  obtain ⟨hl, ⟨rfl, rfl, rfl⟩ | ⟨g, o, cap, cur, E, rfl, hn, hg, hfit, hc, rfl⟩⟩ := ho
  · exact ⟨_, _, rfl⟩
  · exact ⟨_, _, rfl⟩
theorem Own.off {h : Heap} {v : Value} {size n : Nat} {cs : List Value} {F G : List Nat} (ho : Own h v size n cs F) (hd : ∀ k ∈ F, k ∉ G) : Off v G := by
  obtain ⟨hl, ⟨rfl, rfl, rfl⟩ | ⟨g, o, cap, cur, E, rfl, hn, hg, hfit, hc, rfl⟩⟩ := ho
  · intro g o n c h; cases h
  · intro g' o' n' c' h _; cases h; exact hd g (by simp)

/-- What a slice type is: its elements' type, how many cells one has, how many bytes. -/
structure SlT (P : Program) (t E size bytes : Nat) : Prop where
  und : P.underlying t = some (.slice E)
  siz : size? P E = some size
  byt : bytes? P E = some bytes
  zer : (P.info? E).bind (·.zero) ≠ none
  zcs : (zc P E).size = size
  pos : 0 < size
theorem slT_info {P : Program} {t E size bytes : Nat} (h : SlT P t E size bytes) : ∃ i z, P.info? E = some i ∧ i.size = size ∧ i.bytes = bytes ∧ i.zero = some z ∧ z.cells = zc P E := by
  have h1 := h.siz
  have h2 := h.byt
  have h3 := h.zer
  unfold size? at h1
  unfold bytes? at h2
  cases hi : P.info? E with
  | none => simp [hi] at h1
  | some i =>
    rw [hi] at h1 h2 h3
    simp only [Option.map_some, Option.some.injEq, Option.bind_some, ne_eq] at h1 h2 h3
    cases hz : i.zero with
    | none => exact absurd hz h3
    | some z => exact ⟨i, z, rfl, h1, h2, hz, by simp [zc, hi, hz]⟩


end Go.Fx
