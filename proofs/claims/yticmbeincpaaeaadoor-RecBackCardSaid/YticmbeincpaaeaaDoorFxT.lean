/-
  More rules: parts of owned slices, copies into them, slices of slices that a call made.
-/
import Derived.Test.YticmbeincpaaeaaDoorFxR
import Derived.Lib.MakeNoZero
set_option linter.unusedVariables false
set_option linter.unusedSimpArgs false
namespace Go.Fx
theorem Own.capOk {h : Heap} {v : Value} {size n : Nat} {cs : List Value} {F : List Nat} (ho : Own h v size n cs F) : capOk v := by
  obtain ⟨hl, ⟨rfl, rfl, rfl⟩ | ⟨g, o, cap, cur, E, rfl, hn, hg, hfit, hc, rfl⟩⟩ := ho
  · intro a n c he; cases he; omega
  · intro a n c he; cases he; omega
theorem Own.take {h : Heap} {a : Option Addr} {size n k c : Nat} {cs : List Value} {F : List Nat} (ho : Own h (.slice a n c) size n cs F) (hk : k ≤ n) : Own h (.slice a k c) size k (cs.take (k * size)) F := by
  have hmul : k * size ≤ n * size := Nat.mul_le_mul_right _ hk
  obtain ⟨hl, ⟨hv, rfl, rfl⟩ | ⟨g, o, cap, cur, E, hv, hn, hg, hfit, hc, rfl⟩⟩ := ho
  · cases hv
    obtain rfl : k = 0 := by omega
    exact ⟨by simp, .inl ⟨rfl, rfl, rfl⟩⟩
  · cases hv
    refine ⟨by simp; omega, .inr ⟨g, o, _, cur, E, rfl, by omega, hg, hfit, ?_, rfl⟩⟩
    rw [← hc, List.take_take, Nat.min_eq_left hmul]
/-- 'copy(d[k:], x)', d owned, x no longer than the rest. -/
theorem cpy_at {P : Program} {t tx ty E size bytes n m k c : Nat} {w : World} {a : Option Addr} {x : Value} {cs news : List Value} {F : List Nat} {K : Value → World → Prop}
    (hT : SlT P t E size bytes) (ho : Own w.heap (.slice a n c) size n cs F) (hk : k ≤ n) (hn : Cel w.heap x size m news) (hm : m ≤ n - k) (h1 : ∀ u ∈ news, u.oneCell' = true)
    (h : ∀ w', Own w'.heap (.slice a n c) size n (cs.take (k * size) ++ news ++ cs.drop ((k + m) * size)) F → Fr F w w' → K (.int .i64 m) w') :
    efP P (Builtin.copy_ #[t, tx] ty #[.slice (if c = k then a else a.map (·.add (k * size))) (n - k) (c - k), x]) w K := by
  have hln : cs.length = n * size := ho.1
  have hlm : news.length = m * size := by obtain ⟨_, _, _, hl, _⟩ := hn; exact hl
  have hund := hT.und
  have hle := hn.lenOf (P := P) (w := w)
  have hload := hn.load (P := P) (w := w)
  have hmin : Nat.min m (n - k) = m := Nat.min_eq_left hm
  have hkm : (k + m) * size = k * size + m * size := Nat.add_mul ..
  have hb : (k + m) * size ≤ n * size := Nat.mul_le_mul_right _ (by omega)
  have same : m = 0 → cs.take (k * size) ++ news ++ cs.drop ((k + m) * size) = cs := fun h0 => by
    subst h0
    have : news = [] := List.eq_nil_of_length_eq_zero (by omega)
    subst this
    simp
  rcases ho.2 with ⟨hv, rfl, rfl⟩ | ⟨g, o, cap, cur, E', hv, hnc, hg, hfit, hcs, rfl⟩
  · cases hv
    obtain rfl : k = 0 := by omega
    obtain rfl : m = 0 := by omega
    refine ⟨_, _, ?_, h w (by rw [same rfl]; exact ho) (Fr.refl _ _)⟩
    simp only [Builtin.copy_, Sem.run_bind, Sem.run_pure, List.getElem?_toArray, List.getElem?_cons_zero, List.getElem?_cons_succ, run_underlying hund, Result.andThen_ok, hle, run_sizeOf hT.siz]
    simp [goInt, hmin, hload]
  · cases hv
    by_cases h0 : m = 0
    · subst h0
      have hn0 : news = [] := List.eq_nil_of_length_eq_zero (by omega)
      subst hn0
      refine ⟨_, _, ?_, h w (by rw [same rfl]; exact ho) (Fr.refl _ _)⟩
      by_cases hck : c = k
      · simp only [Builtin.copy_, Sem.run_bind, Sem.run_pure, List.getElem?_toArray, List.getElem?_cons_zero, List.getElem?_cons_succ, run_underlying hund, Result.andThen_ok, hle, run_sizeOf hT.siz, if_pos hck]
        simp [goInt, hmin, hload, storeCells]
      · simp only [Builtin.copy_, Sem.run_bind, Sem.run_pure, List.getElem?_toArray, List.getElem?_cons_zero, List.getElem?_cons_succ, run_underlying hund, Result.andThen_ok, hle, run_sizeOf hT.siz, if_neg hck, Option.map_some]
        simp [goInt, hmin, hload, storeCells]
    · have hck : ¬ c = k := by omega
      have hcap : n * size ≤ c * size := Nat.mul_le_mul_right _ hnc
      have hfit2 : o + k * size + news.length ≤ cur.size := by omega
      have hst := run_storeCells_at P g (o + k * size) E' news 0 cur w hg (by simpa using hfit2) h1
      simp only [Nat.add_zero] at hst
      rw [setRow_setBlk w g cur _ E' (0, 0) hg] at hst
      refine ⟨_, setBlk w g (.cells (splice cur (o + k * size) news) E' (0, 0)), ?_, h _ ⟨by simp; omega, .inr ⟨g, o, _, splice cur (o + k * size) news, E', rfl, hnc, setBlk_self w g _ _ hg, ?_, ?_, rfl⟩⟩ (fr_setBlk w g _)⟩
      · simp only [Builtin.copy_, Sem.run_bind, Sem.run_pure, List.getElem?_toArray, List.getElem?_cons_zero, List.getElem?_cons_succ, run_underlying hund, Result.andThen_ok, hle, run_sizeOf hT.siz, if_neg hck, Option.map_some, hmin, hload, Addr_add_mk]
        simp [goInt, hst, splice]
      · simp only [splice, List.size_toArray, List.length_append, List.length_take, List.length_drop, Array.length_toList]; omega
      · have hcur : o + n * size ≤ cur.toList.length := by simp; omega
        simp only [splice]
        rw [hkm]
        generalize k * size = q at *
        generalize m * size = r at *
        generalize n * size = s at *
        generalize cur.toList = l at *
        subst hlm
        apply List.ext_getElem?
        intro i
        rw [← hcs]
        simp only [List.getElem?_append, List.getElem?_take, List.getElem?_drop, List.length_append, List.length_take, List.length_drop]
        grind
section
variable {P : Program} {w0 w : World} {As : List Asn}
theorem cpyB_at_s {t tx ty E c k : Nat} {a : Option Addr} {x : Value} {l m : List UInt8} {K : Value → World → Prop} (hT : SlT P t E 1 1) (hs : Sep w0 w (ownB (.slice a l.length c) l :: As)) (hk : k ≤ l.length) (hn : RdB w.heap x m)
    (hm : m.length ≤ l.length - k) (h : ∀ w', Sep w0 w' (ownB (.slice a l.length c) (l.take k ++ m ++ l.drop (k + m.length)) :: As) → K (.int .i64 m.length) w') :
    efP P (Builtin.copy_ #[t, tx] ty #[.slice (if c = k then a else a.map (·.add (k * 1))) (l.length - k) (c - k), x]) w K := by
  obtain ⟨F, ho, hu⟩ := hs.upd
  refine cpy_at hT ho hk hn hm (bvs_one m) fun w' h1 h2 => h w' (hu w' F (ownB _ _) ?_ h2 (Grew.refl _ _))
  have e : (l.take k ++ m ++ l.drop (k + m.length)).length = l.length := by simp; omega
  show Own w'.heap _ 1 (l.take k ++ m ++ l.drop (k + m.length)).length _ F
  rw [e]
  simpa [bvs] using h1
theorem Sep.rb {v : Value} {l : List UInt8} (h : Sep w0 w (ownB v l :: As)) (hl : l.length ≤ 9223372036854775807) : rBytes.ok w.heap ⟨v, l⟩ := by
  obtain ⟨F, hF⟩ := h.head
  exact ⟨OwnB.rd hF, hl, Own.capOk hF⟩
theorem Sep.takeB {a : Option Addr} {c k : Nat} {l : List UInt8} (h : Sep w0 w (ownB (.slice a l.length c) l :: As)) (hk : k ≤ l.length) : Sep w0 w (ownB (.slice a k c) (l.take k) :: As) := by
  obtain ⟨F, hF, hu⟩ := h.upd
  refine hu w F _ ?_ (Fr.refl _ _) (Grew.refl _ _)
  have := Own.take (k := k) hF hk
  show Own w.heap _ 1 (l.take k).length (bvs (l.take k)) F
  rw [List.length_take, Nat.min_eq_left hk, show bvs (l.take k) = (bvs l).take (k * 1) by simp [bvs]]
  exact this
/-- A slice of slices that a call made. -/
theorem ok_of_own {h : Heap} {v : Value} {l : List (Sl UInt8)} (hc : Cel h v 1 l.length (l.map (·.v))) (hv : capOk v) (hl : l.length ≤ 9223372036854775807) (ha : ∀ a ∈ l, rBytes.ok h a) : (rSl rBytes).ok h ⟨v, l⟩ := by
  refine ⟨?_, hl, hv, ha⟩
  have : l.flatMap rBytes.cells = l.map (·.v) := by
    clear hc hl ha
    induction l with
    | nil => rfl
    | cons a l ih => rw [List.flatMap_cons, ih]; rfl
  show Cel h v 1 l.length (l.flatMap rBytes.cells)
  rw [this]
  exact hc
theorem Sep.capN {v : Value} {size n : Nat} {cs : List Value} (h : Sep w0 w (own v size n cs :: As)) : capOk v := by obtain ⟨F, hF⟩ := h.head; exact Own.capOk hF
theorem Sep.capB {v : Value} {l : List UInt8} (h : Sep w0 w (ownB v l :: As)) : capOk v := by obtain ⟨F, hF⟩ := h.head; exact Own.capOk hF
/-- bytealg.MakeNoZero: so many bytes of whatever. -/
theorem noZero_s {f : FuncId} {fn : Func} {T E n : Nat} {ps : Array TypeId} {K : Value → World → Prop} (hs : Sep w0 w As) (hT : P.underlying T = some (.slice E)) (hf : P.funcs[f]? = some fn) (hn1 : (fn.name == "runtime.NumGoroutine") = false)
    (hn2 : fn.body.isNone = true) (hn3 : ∀ as : Array Value, (callFunc f as).run P w = ((Extern.BytealgMakeNoZero.makeNoZero ps #[T] as).run P w).andThen fun v w' => .ok (.value v) w') (hn : n ≤ 281474976710656)
    (h : ∀ g c cs w', Sep w0 w' (own (.slice (some ⟨g, 0, none⟩) n c) 1 n cs :: As) → n ≤ c → K (.slice (some ⟨g, 0, none⟩) n c) w') : efN P f [.int .i64 n] w K := by
  obtain ⟨cs, hr, hc, _⟩ := Lib.run_makeNoZero (P := P) w ps T E hT n hn
  refine ⟨.slice (some ⟨w.heap.size, 0, none⟩) n cs.size, w.drew.drew.alloc (.cells cs E), ?_, h w.heap.size cs.size (cs.toList.take n) _ ?_ hc⟩
  · show (callFunc f #[.int .i64 n]).run P w = _
    rw [hn3, hr]
    rfl
  · refine Sep.new hs (((Fr.refl [] w).drew _).trans (fr_alloc _ _) (by simp) (by simp)) (B := own _ _ _ _) (F' := [w.heap.size]) ⟨by simp [hc], .inr ⟨w.heap.size, 0, cs.size, cs, E, rfl, hc, alloc_new w.drew.drew _, by simp, by simp, rfl⟩⟩ (by simp)
end
end Go.Fx
