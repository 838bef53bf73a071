/-
  More on what stands side by side: one of many, one more, one out of the middle; single bytes of arrays and names.
-/
import Derived.Test.YticmbeincpaaeaaDoorPbB
set_option linter.unusedVariables false
set_option linter.unusedSimpArgs false
namespace Go.Fx
theorem Sep.onL {w0 w : World} {As : List Asn} {A : Asn} (h : Sep w0 w As) (hm : A ∈ As) : ∃ F, A.on w.heap F := by
  obtain ⟨s, t, rfl⟩ := List.append_of_mem hm
  exact h.dropL.head
theorem Sep.memB {w0 w : World} {As : List Asn} {g : Nat} {o : Obj} (h : Sep w0 w As) (hm : Asn.obj g o ∈ As) : w.heap[g]? = some o := by
  obtain ⟨F, hF, _⟩ := h.onL hm
  exact hF
/-- One more behind the last one. -/
theorem Sep.put {w0 w : World} {α : Type} {f : α → Asn} {Xs T : List Asn} {L : List α} {s : α} (h : Sep w0 w (f s :: (Xs ++ (L.map f ++ T)))) : Sep w0 w (Xs ++ ((L ++ [s]).map f ++ T)) := by
  refine h.perm ?_
  rw [List.map_append, List.append_assoc, ← List.append_assoc, ← List.append_assoc]
  exact List.perm_middle.symm
theorem Sep.dropR {w0 w : World} {As Bs : List Asn} (h : Sep w0 w (As ++ Bs)) : Sep w0 w As := (h.perm List.perm_append_comm).dropL
/-- One out of the middle. -/
theorem Sep.mid {w0 w : World} {As Bs : List Asn} {A : Asn} (h : Sep w0 w (As ++ A :: Bs)) : Sep w0 w (A :: (As ++ Bs)) := h.perm List.perm_middle
abbrev oB (s : Sl UInt8) : Asn := ownB s.v s.l
theorem rdS_ld {S : World → Prop} {p v : Value} {K : Value → Prop} (hS : ∀ u, S u → ∀ K : Value → Prop, K v → ld1 p u.heap K) (hk : K v) : rdS S (fun w => ld1 p w.heap) K := ⟨v, fun u hu => hS u hu _ rfl, hk⟩
theorem At.byte {h : Heap} {g o i : Nat} {a : List UInt8} (ha : At h g o (bvs a)) (hi : i < a.length) (K : Value → Prop) : Go.Fx.ld1 (.pointer (some ⟨g, o + i, none⟩)) h K = K (bv a[i]) := by
  have h1 : bvs a = bvs (a.take i) ++ [bv a[i]] ++ bvs (a.drop (i + 1)) := by
    have e : a = a.take i ++ a[i] :: a.drop (i + 1) := by rw [← List.drop_eq_getElem_cons, List.take_append_drop]
    unfold bvs
    conv => lhs; rw [e]
    rw [List.map_append, List.map_cons]
    simp only [List.append_assoc, List.singleton_append]
  rw [h1] at ha
  exact (ha.part (k := i) (by simp [bvs]; omega)).ld1 K
/-- 'l[j][i]', l a slice of names. -/
theorem Rows'.byte {w : World} {v : Value} {l : List (Vec 32)} {j i : Nat} {a : Vec 32} (hr : Rows' (rVec 32) w.heap v l) (hj : l[j]? = some a) (hi : i < 32) {K : Value → Prop} (h : K (bv (a.1[i]'(by rw [a.2]; exact hi)))) :
    ixs 32 v (.int .i64 (j : Int)) fun t => ixa 32 1 t (.int .i64 (i : Int)) fun p => Go.Fx.ld1 p w.heap K := by
  obtain ⟨g, o, ha, hx⟩ := hr.ix (by decide) hj
  have hx' : ∀ K, ixs 32 v (.int .i64 (j : Int)) K = K (.pointer (some ⟨g, o, none⟩)) := hx .i64
  rw [hx', ixa_mk _ _ _ _ _ _ _ (by omega) (by omega), Int.toNat_natCast, Nat.mul_one, At.byte (a := a.1) ha (by rw [a.2]; exact hi)]
  exact h
theorem rd_vec {w0 z : World} {As : List Asn} {g n c : Nat} {a : Vec n} {T : TypeId} (h : Sep w0 z (blk g (Rdr.cells (rVec n) a).toArray T :: As)) : RdB z.heap (.slice (some ⟨g, 0, none⟩) n c) a.1 := by
  have hat : At z.heap g 0 (bvs a.1) := At.blk (cs := Rdr.cells (rVec n) a) h.blk
  have := At.rd (c := c) hat
  rwa [a.2] at this
theorem RdB.mid {h : Heap} {av : Option Addr} {cv i j : Nat} {l : List UInt8} (hr : RdB h (.slice av l.length cv) l) (hc : l.length ≤ cv) (hi : i ≤ j) (hj : j ≤ l.length) : RdB h (.slice (if cv = i then av else av.map (·.add (i * 1))) (j - i) (cv - i)) ((l.drop i).take (j - i)) :=
  (hr.drop (k := i) (by omega) hc (cv - i)).take (k := j - i) (by omega) (cv - i)
theorem part_full {o : List UInt8} {n : Nat} (h : o.length = n) : part o n = o := by subst h; exact part_all
theorem parts_drop {α β : Type} {s : Nat} {g : α → List β} (hg : ∀ a, (g a).length = s) : ∀ (l : List α) (k : Nat), (l.flatMap g).drop (k * s) = (l.drop k).flatMap g
  | [], k => by simp
  | b :: l, 0 => by simp
  | b :: l, k + 1 => by
    rw [List.drop_succ_cons, List.flatMap_cons, ← parts_drop hg l k, Nat.succ_mul, Nat.add_comm, ← List.drop_drop, List.drop_left' (hg b)]
theorem Rows'.take {α : Type} {q : Rdr α} {h : Heap} {a : Option Addr} {n c k : Nat} {l : List α} (hr : Rows' q h (.slice a n c) l) (hk : k ≤ l.length) (c' : Nat) : Rows' q h (.slice a k c') (l.take k) := by
  have hn : n = l.length := by obtain ⟨_, _, hv, _⟩ := hr; cases hv; rfl
  subst hn
  have := Cel.take (k := k) hr hk c'
  unfold Rows'
  rw [parts_take q.len] at this
  rw [List.length_take, Nat.min_eq_left hk]
  exact this
theorem Rows'.drop {α : Type} {q : Rdr α} {h : Heap} {a : Option Addr} {n c k : Nat} {l : List α} (hr : Rows' q h (.slice a n c) l) (hk : k ≤ l.length) (hc : l.length ≤ c) (c' : Nat) : Rows' q h (.slice (if c = k then a else a.map (·.add (k * q.size))) (n - k) c') (l.drop k) := by
  have hn : n = l.length := by obtain ⟨_, _, hv, _⟩ := hr; cases hv; rfl
  subst hn
  have := Cel.drop (k := k) hr hk hc c'
  unfold Rows'
  rw [parts_drop q.len] at this
  rw [List.length_drop]
  exact this
end Go.Fx
