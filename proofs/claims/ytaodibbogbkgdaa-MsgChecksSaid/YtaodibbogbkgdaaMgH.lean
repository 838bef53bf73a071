/-
  'append(x, make([]byte, n)...)', x owned; names that are taken.
-/
import Derived.Test.YtaodibbogbkgdaaMgG
set_option linter.unusedVariables false
set_option linter.unusedSimpArgs false
namespace Go.Fx
theorem zeroCells_u8 (n : Nat) : (Builtin.zeroCells #[Value.int .u8 0] n).toList = bvs (List.replicate n 0) := by
  apply List.ext_getElem?
  intro i
  simp only [Builtin.zeroCells, bvs]
  by_cases h : i < n
  · simp [h, bv, Nat.mod_one]
  · simp [h]
theorem appMk {P : Program} {t tx ty E : Nat} {w : World} {s : Value} {l : List UInt8} {n : Nat} {F : List Nat} {K : Value → World → Prop} (hT : SlT P t E 1 1) (hz8 : zc P E = #[.int .u8 0]) (hx : P.underlying tx = some (.int .i64)) (ho : OwnB w.heap s l F) (h0 : 0 < n) (hn : l.length + n ≤ 1000000)
    (h : ∀ v' w' F', OwnB w'.heap v' (l ++ List.replicate n 0) F' → Fr F w w' → Grew w F F' → K v' w') : efP P (Builtin.append_ #[t, tx] ty #[s, .int .i64 n]) w K := by
  obtain ⟨i, z, hi, hsz, hby, hz, hzc⟩ := slT_info hT
  have hund := hT.und
  have hz8' : z.cells = #[.int .u8 0] := by rw [hzc, hz8]
  have hzl := zeroCells_u8
  have hnl : ∀ n, (bvs (List.replicate n (0 : UInt8))).length = n := fun n => by simp [bvs]
  have hone := bvs_one (List.replicate n 0)
  have hsl := Own.slice ho
  obtain ⟨base, cap, rfl⟩ := hsl
  have ha : Sem.run P (asIntOf (.int .i64 (n : Int))) w = .ok (.i64, (n : Int)) w := rfl
  have hw : IntKind.i64.wrap (n : Int) = n := wi64 (by omega) (by omega)
  have h1 : ¬ ((n : Int) < 0) := by omega
  have h2 : ¬ (281474976710656 < (n : Int)) := by omega
  have h3 : ¬ n = 0 := by omega
  have hll : (bvs l).length = l.length := by simp [bvs]
  by_cases hroom : l.length + n ≤ cap
  · rcases ho.2 with ⟨hv, hl0, rfl⟩ | ⟨g, o, cap', cur, E', hv, hnc, hg, hfit, hcs, rfl⟩
    · simp only [Value.slice.injEq] at hv
      omega
    · obtain ⟨rfl, rfl⟩ : base = some ⟨g, o, none⟩ ∧ cap = cap' := by cases hv; exact ⟨rfl, rfl⟩
      simp only [Nat.mul_one] at hfit hcs
      have hst := run_storeCells_at P g (o + l.length) E' (bvs (List.replicate n 0)) 0 cur w hg (by rw [hnl]; omega) hone
      simp only [Nat.add_zero] at hst
      rw [setRow_setBlk w g cur _ E' (0, 0) hg] at hst
      refine ⟨.slice (some ⟨g, o, none⟩) (l.length + n) cap, setBlk w g (.cells (splice cur (o + l.length) (bvs (List.replicate n 0))) E' (0, 0)), ?_, h _ _ [g] ?_ (fr_setBlk w g _) (Grew.refl _ _)⟩
      · simp only [Builtin.append_, Sem.run_bind, Sem.run_pure, List.getElem?_toArray, List.getElem?_cons_zero, List.getElem?_cons_succ, run_underlying hund, Result.andThen_ok, run_sizeOf hT.siz, run_underlying hx]
        simp [asInt, ha, hw, typeInfo, hi, hby, h1, h2, h3, zeroValue, hz, hz8', hroom, Addr_add_mk, hst, splice, hzl]
      · refine ⟨by simp [bvs], .inr ⟨g, o, cap, splice cur (o + l.length) (bvs (List.replicate n 0)), E', by simp, by simpa using hroom, setBlk_self w g _ _ hg, ?_, ?_, rfl⟩⟩
        · simp only [splice, List.size_toArray, List.length_append, List.length_take, List.length_drop, Array.length_toList, hnl]; omega
        · have hcl : o + l.length ≤ cur.toList.length := by simp; omega
          have := take_drop_app cur.toList o l.length n (bvs (List.replicate n 0)) (hnl n) hcl
          simp only [splice, hnl, List.length_append, List.length_replicate, Nat.mul_one]
          rw [this, hcs, bvs_append]
  · have hgrow : cap < l.length + n := by omega
    have h48 : ¬ (281474976710656 < Builtin.nextslicecap (l.length + n) cap * i.bytes) := by
      rw [hby]; have := growslice_fits (old := cap) (need := l.length + n) (bytes := 1) hgrow (by omega); omega
    have h48' : ¬ (281474976710656 < Builtin.nextslicecap (l.length + n) cap) := by rw [hby, Nat.mul_one] at h48; exact h48
    have h63' : ¬ (9223372036854775807 < ((l.length : Int) + (n : Int))) := by omega
    have hold : Cel w.drew.heap (.slice base l.length cap) 1 l.length (bvs l) := Own.cel ho
    have holdr := hold.load (P := P)
    have hge := grownCap_ge w (l.length + n) cap E
    refine ⟨.slice (some ⟨w.heap.size, 0, none⟩) (l.length + n) (grownCap w (l.length + n) cap E), w.drew.alloc (.cells ((bvs l).toArray ++ Builtin.zeroCells z.cells n ++ Builtin.zeroCells z.cells (grownCap w (l.length + n) cap E - (l.length + n))) E), ?_, h _ _ [w.heap.size] ?_ ?_ (Grew.new (Nat.le_refl _) _)⟩
    · simp only [Builtin.append_, Sem.run_bind, Sem.run_pure, List.getElem?_toArray, List.getElem?_cons_zero, List.getElem?_cons_succ, run_underlying hund, Result.andThen_ok, run_sizeOf hT.siz, run_underlying hx]
      simp [asInt, ha, hw, typeInfo, hi, hby, h1, h2, h3, hroom, h63', h48', zeroValue, hz, Question.forced, holdr, newRow, grownCap]
    · refine ⟨by simp [bvs], .inr ⟨w.heap.size, 0, grownCap w (l.length + n) cap E, _, E, by simp, by simpa using hge, alloc_new w.drew _, ?_, ?_, rfl⟩⟩
      · rw [hz8']
        simp only [Array.size_append, size_zeroCells, List.size_toArray, hll]
        simp
        omega
      · rw [hz8']
        simp only [Array.toList_append, hzl, List.drop_zero, Nat.mul_one, List.length_append, List.length_replicate, bvs_append]
        rw [List.take_append_of_le_length (by simp [bvs]), List.take_of_length_le (by simp [bvs])]
    · exact (Fr.refl F w).drew _ |>.trans (fr_alloc _ _) (fun i hi => .inl hi) (by simp)
end Go.Fx
