/-
  Slices: append, make, copy; bytes and texts; what a closed run gives.
-/
import Derived.Test.YticmbeincpaaeaaDoorFxH
set_option linter.unusedVariables false
set_option linter.unusedSimpArgs false
namespace Go.Fx

theorem Cel.lenOf {P : Program} {w : World} {h : Heap} {v : Value} {size n : Nat} {cs : List Value} (hc : Cel h v size n cs) : (Builtin.lenOf v).run P w = .ok n w := by
  obtain ⟨a, c, rfl, _⟩ := hc
  rfl
theorem take_drop_app (l : List Value) (o n m : Nat) (news : List Value) (hm : news.length = m) (hn : o + n ≤ l.length) :
    ((l.take (o + n) ++ news ++ l.drop (o + n + m)).drop o).take (n + m) = (l.drop o).take n ++ news := by
  subst hm
  rw [List.append_assoc, List.drop_append_of_le_length (by simp; omega), List.take_append]
  have h1 : (List.drop o (List.take (o + n) l)) = (l.drop o).take n := by
    rw [List.drop_take]; congr 1; omega
  have h2 : ((l.drop o).take n).length = n := by simp; omega
  rw [h1]
  have h3 : List.take (n + news.length) ((l.drop o).take n) = (l.drop o).take n := List.take_of_length_le (by omega)
  rw [h3, h2, Nat.add_sub_cancel_left]
  simp

/-- 'append(s, x...)', s owned: the new slice is owned; memory that was there has turned in s's own block alone. -/
theorem app_own {P : Program} {t tx ty E size bytes : Nat} {d : TypeDesc} {w : World} {s x : Value} {n m : Nat} {cs news : List Value} {F : List Nat} {K : Value → World → Prop}
    (hT : SlT P t E size bytes) (hx : P.underlying tx = some d) (hd : ∀ k, d ≠ .int k) (ho : Own w.heap s size n cs F) (hn : Cel w.heap x size m news) (h1 : ∀ u ∈ news, u.oneCell' = true)
    (hb : (n + m) * bytes ≤ 140737488355328) (h63 : n + m ≤ 9223372036854775807)
    (h : ∀ v' w' F', Own w'.heap v' size (n + m) (cs ++ news) F' → Fr F w w' → Grew w F F' → K v' w') : efP P (Builtin.append_ #[t, tx] ty #[s, x]) w K := by
  obtain ⟨i, z, hi, hs, hby, hz, hzc⟩ := slT_info hT
  have hund := hT.und
  have hln : cs.length = n * size := ho.1
  have hlm : news.length = m * size := by obtain ⟨_, _, _, hl, _⟩ := hn; exact hl
  have hle := hn.lenOf (P := P) (w := w)
  have hsl := ho.slice
  obtain ⟨base, cap, rfl⟩ := hsl
  by_cases hroom : n + m ≤ cap
  · -- there is room
    have hnew := hn.load (P := P)
    rcases ho.2 with ⟨hv, rfl, rfl⟩ | ⟨g, o, cap', cur, E', hv, hnc, hg, hfit, hcs, rfl⟩
    · obtain ⟨rfl, -, rfl⟩ : base = none ∧ True ∧ cap = 0 := by cases hv; exact ⟨rfl, trivial, rfl⟩
      obtain rfl : m = 0 := by omega
      have hn0 : news = [] := List.eq_nil_of_length_eq_zero (by omega)
      have hc0 : cs = [] := List.eq_nil_of_length_eq_zero (by omega)
      subst hn0; subst hc0
      refine ⟨.slice none 0 0, w, ?_, h _ _ [] (Own.nil _ _) (Fr.refl _ _) (Grew.refl _ _)⟩
      simp only [Builtin.append_, Sem.run_bind, Sem.run_pure, List.getElem?_toArray, List.getElem?_cons_zero, List.getElem?_cons_succ, run_underlying hund, Result.andThen_ok, run_sizeOf hT.siz, run_underlying hx]
      cases d <;> first | exact absurd rfl (hd _) | simp [hle, hnew]
    · obtain ⟨rfl, rfl⟩ : base = some ⟨g, o, none⟩ ∧ cap = cap' := by cases hv; exact ⟨rfl, rfl⟩
      have hmul : (n + m) * size ≤ cap * size := Nat.mul_le_mul_right _ hroom
      have hadd : (n + m) * size = n * size + m * size := Nat.add_mul _ _ _
      have hfit2 : o + n * size + news.length ≤ cur.size := by omega
      have hst := run_storeCells_at P g (o + n * size) E' news 0 cur w hg (by simpa using hfit2) h1
      simp only [Nat.add_zero] at hst
      rw [setRow_setBlk w g cur _ E' (0, 0) hg] at hst
      refine ⟨.slice (some ⟨g, o, none⟩) (n + m) cap, setBlk w g (.cells (splice cur (o + n * size) news) E' (0, 0)), ?_, h _ _ [g] ⟨by simp [hln, hlm, hadd], .inr ⟨g, o, cap, splice cur (o + n * size) news, E', rfl, hroom, setBlk_self w g _ _ hg, ?_, ?_, rfl⟩⟩ (fr_setBlk w g _) (Grew.refl _ _)⟩
      · simp only [Builtin.append_, Sem.run_bind, Sem.run_pure, List.getElem?_toArray, List.getElem?_cons_zero, List.getElem?_cons_succ, run_underlying hund, Result.andThen_ok, run_sizeOf hT.siz, run_underlying hx]
        cases d <;> first | exact absurd rfl (hd _) | simp [hle, hnew, hroom, Addr_add_mk, hst, splice]
      · simp only [splice, List.size_toArray, List.length_append, List.length_take, List.length_drop, Array.length_toList]; omega
      · have hl : o + n * size ≤ cur.toList.length := by simp; omega
        have := take_drop_app cur.toList o (n * size) (m * size) news hlm hl
        rw [hadd]
        simp only [splice, hlm]
        rw [this, hcs]
  · -- it grows
    have hgrow : cap < n + m := by omega
    have h48 : ¬ (281474976710656 < Builtin.nextslicecap (n + m) cap * i.bytes) := by
      rw [hby]; have := growslice_fits (old := cap) hgrow hb; omega
    have h63' : ¬ (9223372036854775807 < ((n : Int) + (m : Int))) := by omega
    have hold : Cel w.drew.heap (.slice base n cap) size n cs := ho.cel
    have hnew' : Cel w.drew.heap x size m news := hn
    have holdr := hold.load (P := P)
    have hnewr := hnew'.load (P := P)
    refine ⟨.slice (some ⟨w.heap.size, 0, none⟩) (n + m) (grownCap w (n + m) cap E), w.drew.alloc (.cells (cs.toArray ++ news.toArray ++ Builtin.zeroCells z.cells (grownCap w (n + m) cap E - (n + m))) E), ?_, h _ _ [w.heap.size] ?_ ?_ (Grew.new (Nat.le_refl _) _)⟩
    · simp only [Builtin.append_, Sem.run_bind, Sem.run_pure, List.getElem?_toArray, List.getElem?_cons_zero, List.getElem?_cons_succ, run_underlying hund, Result.andThen_ok, run_sizeOf hT.siz, run_underlying hx]
      cases d <;> first | exact absurd rfl (hd _) | simp [hle, hroom, h63', h48, typeInfo, hi, zeroValue, hz, Question.forced, holdr, hnewr, newRow, grownCap]
      all_goals
        congr 2
        apply Array.ext'
        simp [List.append_assoc]
    · have hge := grownCap_ge w (n + m) cap E
      have hzs : z.cells.size = size := by rw [hzc]; exact hT.zcs
      refine ⟨by simp [hln, hlm, Nat.add_mul], .inr ⟨w.heap.size, 0, _, _, E, rfl, hge, alloc_new w.drew _, ?_, ?_, rfl⟩⟩
      · have h2 : grownCap w (n + m) cap E = n + m + (grownCap w (n + m) cap E - (n + m)) := by omega
        simp only [Array.size_append, List.size_toArray, size_zeroCells, hzs, hln, hlm]
        rw [← Nat.add_mul, ← Nat.add_mul, ← h2]
        omega
      · have : (cs ++ news).length = (n + m) * size := by simp [hln, hlm, Nat.add_mul]
        simp only [Array.toList_append, List.drop_zero]
        rw [List.take_append_of_le_length (by rw [← this]; simp), List.take_of_length_le (by rw [← this]; simp)]
    · exact (Fr.refl F w).drew _ |>.trans (fr_alloc _ _) (fun i hi => .inl hi) (by simp)
end Go.Fx
