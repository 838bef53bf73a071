/-
  Maps whose keys may come again: what a key has, as a function.
-/
import Derived.Maps.RangeRun
import Derived.KernelRfl
import Derived.Test.YtpdnddcodnpmeaaGreatDoorQ8ff11086
import Derived.Test.YtpdnddcodnpmeaaGreatDoorQ52f385ea
import Derived.Test.YtpdnddcodnpmeaaGreatDoorQ7b5fe899
import Derived.Test.YtpdnddcodnpmeaaGreatDoorQ3ba871d2
import Derived.Test.YtpdnddcodnpmeaaGreatDoorQ67391b50
import Derived.Test.YtpdnddcodnpmeaaGreatDoorQd963d5f1
import Derived.Test.YtpdnddcodnpmeaaGreatDoorQf186b5bc
import Derived.Test.YtpdnddcodnpmeaaGreatDoorQ738e87f5
import Derived.Test.YtpdnddcodnpmeaaGreatDoorQed4c4d5e
set_option linter.unusedVariables false
set_option linter.unusedSimpArgs false
namespace Go.Fx
def BB (t : Tr) (N : List TN) (k : Vec 32) : List (Vec 32) := if has t N k then (Fk t N (hgt t N k) k).reverse else []
theorem Rf (t : Tr) (N : List TN) : ∀ (n : Nat) (k : Vec 32), (Fk t N n k).length ≤ n
  | 0, _ => by simp [Fk]
  | n + 1, k => by
    unfold Fk
    split
    · simp
    · have := Rf t N n (upOf k N)
      simp only [List.length_cons]
      omega
theorem ZF (b : Blk) (v : Value) (K : Value → Prop) : fldv 0 32 true (bq b v) K = K (kv b.p) := by
  have hl : (bvs b.p.1).length = 32 := by rw [K6]; exact b.p.2
  have ex : (Rdr.cells Aw (b.p, b.h, v)).toArray.extract 0 (0 + 32) = (bvs b.p.1).toArray := by
    apply Array.ext'
    show ((bvs b.p.1 ++ ([Value.int .i64 b.h] ++ [v])).toArray.extract 0 (0 + 32)).toList = _
    simp only [List.extract_toArray, List.drop_zero]
    simp [List.extract, hl]
  refine propext ⟨?_, fun hk => ⟨_, rfl, ?_, ?_⟩⟩
  · rintro ⟨cs, hcs, h⟩
    cases hcs
    have h2 := h.2
    rw [ex] at h2
    exact h2
  · show 0 + 32 ≤ (bvs b.p.1 ++ ([Value.int .i64 b.h] ++ [v])).toArray.size
    simp [hl]
  · rw [ex]
    exact hk
section
variable {w0 w w' : World} {As : List Asn} {g gm c : Nat} {ov : Value} {t : Tr} {N : List TN}
theorem Agc (hr : TrR w.heap g gm ov t N c) (hw : TrW t N) (a : Vec 32) (hh : hgt t N a ≤ 1000000) : cal P In [.pointer (some ⟨g, 0, none⟩), kv a] w fun r w' => Sep w w' [rows (rVec 32) r (BB t N a)] := by
  refine TT fun R hR => ?_
  unfold LS
  refine bxQ (Sep.start w) fun g3 w1 hs1 => ?_
  simp only [Ai hs1.blk]
  refine Af (GI (hs1.tr hr) a) ?_
  rintro _ w2 ⟨rfl, hf2⟩
  have hs2 := hs1.old hf2
  simp only [fx, Nat.reduceAdd, forall_const]
  rw [Aj]
  refine ⟨fun h => ?_, fun h => ?_⟩
  · have ha : has t N a = false := by simpa using h
    refine hR _ _ ?_
    unfold BB
    rw [ha]
    exact ((Sep.start w).old hs2.fr0).nilR
  have ha : has t N a = true := by simpa using h
  have hwl := Rf t N (hgt t N a) a
  refine ⟨fun x z => ∃ (k : Vec 32) (D : List (Vec 32)), has t N k = true ∧ D ++ Fk t N (hgt t N k) k = Fk t N (hgt t N a) a ∧ Sep w z [rows (rVec 32) x D, blk g3 (Rdr.cells (rVec 32) k).toArray Aa], fun _ z => hgt t N (Rw g3 z), ⟨a, [], ha, rfl, hs2.nilR⟩, ?_⟩
  rintro x w5 ⟨k, D, hk, hD, hs5⟩ -
  have hDl : D.length ≤ 1000000 := by
    have := congrArg List.length hD
    rw [List.length_append] at this
    omega
  refine CT hs5 fun w6 hs6 hw6 => ?_
  obtain ⟨T, fr, hc⟩ := (hs6.tr hr).cell
  simp only [Ai (Sep.p1 hs6).blk, C0, DC hc, Ci hc, BU hc, BM hc, B6 hc, A7 hc, BR hc, fx, Nat.reduceAdd, forall_const]
  rw [Aj]
  refine ⟨fun h => ?_, fun h => ?_⟩
  · have h1 : ¬ k = t.root := by simpa using h
    obtain ⟨h2, h3⟩ := F5 hw hk h1
    refine CQ hs6 CM (l := [k]) (V := fun a => .agg (Rdr.cells (rVec 32) a).toArray) (fun a => rfl) rfl rfl (by decide) (by decide) fun g7 w7 hs7 => ?_
    refine BX CM EB (by simp) hs7.p1 (Sep.rows hs7) ?_ (by simp; omega) (by simp; omega) fun v8 w8 hs8 => ?_
    · simp only [List.flatMap_cons, List.flatMap_nil, List.append_nil]
      exact Ca
    have hs9 : Sep w w8 [rows (rVec 32) v8 (D ++ [k]), blk g3 (Rdr.cells (rVec 32) k).toArray Aa] := (hs8.pick [0, 2] 3).dropR (As := [_, _])
    refine A0 hs9 fun w10 hs10 _ => ?_
    refine AF (v := .map (some gm)) (fun u hu K hk => by
      obtain ⟨T, fr, hc⟩ := (hu.tr hr).cell
      exact (A7 hc K).mpr hk) ?_
    refine ⟨kv k, fun u hu => (Ai (Sep.p1 hu).blk _).mpr rfl, ?_⟩
    refine ⟨(getE k (N.map TN.ent)).getD (bq Blk.none (.slice none 0 0)), fun u hu => ((hu.tr hr).look1 k _).mpr rfl, ?_⟩
    rw [Nz]
    change fldv _ _ _ _ _
    rw [ZF]
    refine A9 (AE hs10.p1 fun w11 hs11 => ?_)
    refine ⟨⟨upOf k N, D ++ [k], h2, ?_, hs11.p1⟩, ?_⟩
    · rw [← hD, K1 hw hk h1]; simp
    · rw [GX hs11.blk, GX (Sep.p1 hs5).blk]
      show hgt t N (upOf k N) < hgt t N k
      omega
  · have h1 : k = t.root := by simpa using h
    rw [h1, Ox, List.append_nil] at hD
    refine Af (ZP hs6 hDl) ?_
    rintro _ w7 ⟨rfl, hs7⟩
    refine hR _ _ ?_
    unfold BB
    rw [if_pos ha, ← hD]
    exact Sep.dropR (As := [rows (rVec 32) x D.reverse]) hs7
end
end Go.Fx
namespace Go.Fx
theorem AdS {α : Type} (so : α → Bool) (k : α) : List.filter so (some k).toList = if so k = true then [k] else [] := by
  cases h : so k <;> simp [h]
section
variable {w0 w w' : World} {As : List Asn} {g gm c : Nat} {ov : Value} {t : Tr} {N : List TN}
theorem WV {f : FuncId} {cap args : List Value} {K : Value → World → Prop} (hc : callable P f = true) (h : cal P f (args ++ cap) w K) : calV P (.func (.func f) #[] cap.toArray) args w K :=
  ⟨f, #[], cap.toArray, rfl, hc, by simpa [cal] using h⟩
theorem NS {f : FuncId} {cap : List Value} {so : Vec 32 → Bool} (hr : TrR w.heap g gm ov t N c) (hn : N.length ≤ 1000000) (hc : callable P f = true)
    (hso : ∀ (z : World) (k : Vec 32), Fr [] w z → cal P f ([kv k] ++ cap) z fun r w' => r = .bool (so k) ∧ Fr [] z w') :
    cal P Er [.pointer (some ⟨g, 0, none⟩), .func (.func f) #[] cap.toArray] w fun r w' => Sep w w' [rows (rVec 32) r ((N.map (·.1)).filter so)] := by
  refine Sp fun R hR => ?_
  unfold Kt
  refine Af (EV hr) ?_
  rintro _ _ ⟨rfl, rfl⟩
  obtain ⟨T, fr, hcl⟩ := hr.cell
  have hl : ∀ K, lenS ov K = K (.int .i64 N.length) := fun K => by
    have := hr.ord.len K
    rwa [List.length_map] at this
  simp only [fx, Nat.reduceAdd, forall_const, DC hcl, Ci hcl, BU hcl, BM hcl, B6 hcl, A7 hcl, BR hcl, hl]
  refine ⟨fun x y z => ∃ i : Nat, y = .int .i64 i ∧ i ≤ N.length ∧ Sep w z [rows (rVec 32) x (((N.map (·.1)).take i).filter so)], fun _ y _ => (N.length - RowKit.intOf y).toNat, ⟨0, rfl, by omega, (Sep.start w).nilR⟩, ?_⟩
  rintro x _ w1 ⟨i, rfl, hi, hs1⟩ -
  simp only [fx, Nat.reduceAdd, forall_const]
  rw [Aj]
  refine ⟨fun h => ?_, fun h => ?_⟩
  · have hlt : i < N.length := by simp at h; omega
    obtain ⟨Ks, hKs⟩ : ∃ Ks : List (Vec 32), Ks = N.map (·.1) := ⟨_, rfl⟩
    have hKl : Ks.length = N.length := by rw [hKs, List.length_map]
    rw [← hKs] at hs1 ⊢
    have hord := hr.ord
    rw [← hKs] at hord
    obtain ⟨k, hx⟩ : ∃ k, Ks[i]? = some k := ⟨_, List.getElem?_eq_getElem (by omega)⟩
    clear hKs
    have ht : (Ks.take (i + 1)).filter so = (Ks.take i).filter so ++ (if so k then [k] else []) := by
      rw [List.take_add_one, hx, List.filter_append, AdS]
    have hfl : ((Ks.take i).filter so).length ≤ i := by
      have h1 := List.length_filter_le so (Ks.take i)
      have h2 : (Ks.take i).length ≤ i := List.length_take_le _ _
      omega
    refine ⟨fun v z => Sep w z [rows (rVec 32) v ((Ks.take (i + 1)).filter so)], ?_, ?_⟩
    · change ixs 32 _ _ _
      refine AB.ldN (q := rVec 32) (by decide) (hord.fr hs1.fr0) hx .i64 ?_
      refine Av hs1 (AS w1) fun g7 w2 hs2 => ?_
      refine AE (b := k) hs2 fun w3 hs3 => ?_
      simp only [Ai hs3.blk]
      refine WV hc (Af (hso w3 k hs3.fr0) ?_)
      rintro _ w4 ⟨rfl, hf4⟩
      have hs4 := hs3.old hf4
      rw [Aj]
      refine ⟨fun hk => ?_, fun hk => ?_⟩
      · simp only [Ai hs4.blk]
        refine CQ hs4 CM (l := [k]) (V := fun a => .agg (Rdr.cells (rVec 32) a).toArray) (fun a => rfl) rfl rfl (by decide) (by decide) fun g8 w5 hs5 => ?_
        refine BX CM EB (by simp) hs5.p2 (Sep.rows hs5) ?_ (by simp; omega) (by simp; omega) fun v8 w8 hs8 => ?_
        · simp only [List.flatMap_cons, List.flatMap_nil, List.append_nil]
          exact Ca
        rw [ht, hk, if_pos rfl]
        exact Sep.dropR (As := [rows (rVec 32) v8 _]) hs8
      · rw [ht, hk]
        simpa using hs4.tail
    · rintro v w2 hs2 _
      rw [wi64 (by omega) (by omega)]
      exact ⟨⟨i + 1, by simp, by omega, hs2⟩, by simp [RowKit.intOf]; omega⟩
  · have hge : i = N.length := by simp at h; omega
    subst hge
    rw [List.take_of_length_le (by simp)] at hs1
    exact hR _ _ hs1
end
end Go.Fx
namespace Go.Fx
def trL (g gm : Nat) (ov : Value) (t : Tr) (N : List TN) (c : Nat) : List Asn :=
  blk g (Rdr.cells AN (tq t gm ov)).toArray BE :: mpN gm N c :: rows (rVec 32) ov (N.map (·.1)) :: N.map fun x => ownB x.2.2.1 x.2.1.d
section
variable {w0 w w' : World} {As : List Asn} {g gm c : Nat} {ov : Value} {t : Tr} {N : List TN}
theorem TrW.nil (t : Tr) : TrW t [] := ⟨fun k b h => by simp [Ba, Bx] at h, fun k b h => by simp [Ba, Bx] at h, rfl, fun x hx => by cases hx⟩
theorem Afg (r : Vec 32) (h m : Int) : cal P Oa [kv r, .int .i64 h, .int .i64 m] w fun v w' => (¬ (0 ≤ h ∧ 1 ≤ m ∧ m ≤ 256) ∧ v = .tuple #[.pointer none, .int .i64 1] ∧ Fr [] w w') ∨
    ((0 ≤ h ∧ 1 ≤ m ∧ m ≤ 256) ∧ ∃ g gm, v = .tuple #[.pointer (some ⟨g, 0, none⟩), .int .i64 0] ∧ Sep w w' (trL g gm (.slice none 0 0) ⟨r, h, m⟩ [] 0)) := by
  refine Aeb fun R hR => ?_
  unfold WD
  refine bxQ (Sep.start w) fun g1 w1 hs1 => ?_
  simp only [fx, Nat.reduceAdd, forall_const]
  rw [Aj]
  refine ⟨fun hc => ?_, fun hc => ?_⟩
  · simp only [Bool.or_eq_true, decide_eq_true_eq] at hc
    exact hR _ _ (.inl ⟨by omega, rfl, hs1.fr0⟩)
  · simp only [Bool.or_eq_false_iff, decide_eq_false_iff_not] at hc
    simp only [Ai hs1.blk]
    refine J1 (n := 32) hs1 fun gm w2 hs2 => ?_
    rw [Np rfl]
    refine bxQ hs2 fun g3 w3 hs3 => ?_
    refine hR _ _ (.inr ⟨by omega, g3, gm, rfl, ?_⟩)
    have h4 := Mx (EOk.nil 0) (Sep.p2 (hs3.nilR (q := rVec 32)))
    exact Sep.dropR (As := trL g3 gm (.slice none 0 0) ⟨r, h, m⟩ [] 0) (Sep.pick h4 [2, 0, 1] 4)
end
end Go.Fx
namespace Go.Fx
section
variable {w0 w w' : World} {As : List Asn} {g gm c : Nat} {ov : Value} {t : Tr} {N : List TN}
end
end Go.Fx
namespace Go.Fx
def trH (g gm : Nat) (ov : Value) (t : Tr) (N : List TN) (c : Nat) : List Asn :=
  [blk g (Rdr.cells AN (tq t gm ov)).toArray BE, mpN gm N c, rows (rVec 32) ov (N.map (·.1))]
def Dat (N : List TN) (As : List Asn) : Prop := ∀ x ∈ N, ownB x.2.2.1 x.2.1.d ∈ As
theorem AhY (g gm : Nat) (ov : Value) (t : Tr) (c : Nat) : trL g gm ov t [] c = trH g gm ov t [] c := rfl
theorem Dat.nil (As : List Asn) : Dat [] As := fun x hx => by cases hx
theorem Dat.sub {N : List TN} {As Bs : List Asn} (h : Dat N As) (hs : ∀ A ∈ As, A ∈ Bs) : Dat N Bs := fun x hx => hs _ (h x hx)
theorem Dat.add {N : List TN} {As : List Asn} {k : Vec 32} {b : Blk} {v : Value} {c : Nat} (h : Dat N As) : Dat (N ++ [(k, b, v, c)]) (ownB v b.d :: As) := fun x hx => by
  rcases List.mem_append.1 hx with hx | hx
  · exact List.mem_cons_of_mem _ (h x hx)
  · obtain rfl : x = (k, b, v, c) := by simpa using hx
    simp
section
variable {w0 w w' : World} {As : List Asn} {g gm c : Nat} {ov : Value} {t : Tr} {N : List TN}
theorem Rl (h : Sep w0 w (trH g gm ov t N c ++ As)) (hd : Dat N As) : TrR w.heap g gm ov t N c := by
  refine ⟨⟨_, _, Sep.blk h⟩, (by obtain ⟨E, hE, h2⟩ := Uv (Sep.tail h); exact ⟨E, hE, Sep.map h2⟩), Sep.rows (Sep.tail (Sep.tail h)), fun x hx => ?_⟩
  obtain ⟨F, hF⟩ := h.onL (A := ownB x.2.2.1 x.2.1.d) (by
    simp only [trH, List.cons_append, List.mem_cons, List.nil_append]
    exact .inr (.inr (.inr (hd x hx))))
  exact OwnB.rd hF
def addE (t : Tr) (N : List TN) (b : Blk) : Int :=
  if b.chk ≠ 0 then b.chk else if has t N b.id = true then 110 else if has t N b.p = false ∨ b.h < 1 ∨ b.h - 1 ≠ levH t N b.p then 31 else if t.most ≤ N.length then 6 else 0
theorem AgE {b : Blk} {v : Value} (hs : Sep w0 w (trH g gm ov t N c ++ As)) (hd : Dat N As) (hw : TrW t N) (hC : Cub w) (hb : RdB w.heap v b.d) (hh : b.h ≤ maxI) (hn : N.length ≤ 1000000) :
    cal P Da [.pointer (some ⟨g, 0, none⟩), bq b v] w fun r w' =>
      (addE t N b ≠ 0 ∧ r = .tuple #[kv (vz 32), .int .i64 (addE t N b)] ∧ Sep w0 w' (trH g gm ov t N c ++ As)) ∨
      (addE t N b = 0 ∧ r = .tuple #[kv b.id, .int .i64 0] ∧ ∃ ov' vd, Sep w0 w' (trH g gm ov' t (N ++ [(b.id, b, vd, c)]) (c + 1) ++ (ownB vd b.d :: As))) := by
  have hr := Rl hs hd
  refine Vq fun R hR => ?_
  unfold MD
  refine bxQ (Sep.start w) fun g3 w1 hs1 => ?_
  refine Av hs1 (AS w1) fun g4 w2 hs2 => ?_
  refine Af (EV (hs2.tr hr)) ?_
  rintro _ _ ⟨rfl, rfl⟩
  simp only [fx, Nat.reduceAdd, forall_const, AA (Sep.p1 hs2).blk, Am (Sep.p1 hs2).blk, Ap (Sep.p1 hs2).blk, Ay (Sep.p1 hs2).blk]
  refine Af (Qp (hC.fr hs2.fr0) (hb.fr hs2.fr0 (D8 _)) hh) ?_
  rintro _ w3 ⟨rfl, hf3⟩
  have hs3 := hs2.old hf3
  simp only [fx, Nat.reduceAdd, forall_const]
  refine Av hs3 (AS w3) fun g6 w4 hs4 => ?_
  refine AE hs4 fun w5 hs5 => ?_
  have bad : ∀ (w6 : World) (e : Int), Sep w w6 [blk g6 (Rdr.cells (rVec 32) b.name).toArray Aa, blk g4 (Rdr.cells (rVec 32) (vz 32)).toArray Aa, blk g3 (Rdr.cells Aw (b.p, b.h, v)).toArray Ao] → addE t N b = e → e ≠ 0 →
      rdP P (Instr.build Aa #[]) w6 fun t20 => stN 32 (.pointer (some ⟨g4, 0, none⟩)) t20 w6 fun w => ldN 32 (.pointer (some ⟨g4, 0, none⟩)) w.heap fun r1 => R (.tuple #[r1, .int .i64 e]) w := fun w6 e hs6 he h0 => by
    rw [IQ]
    refine AE hs6.p1 fun w7 hs7 => ?_
    simp only [Ai hs7.blk]
    exact hR _ _ (.inl ⟨by rw [he]; exact h0, by rw [he], hs.old hs7.fr0⟩)
  rw [Aj]
  refine ⟨fun h => ?_, fun h => ?_⟩
  · have h : b.chk ≠ 0 := by simpa using h
    exact bad w5 b.chk hs5 (by unfold addE; rw [if_pos h]) h
  have h1 : b.chk = 0 := by simpa using h
  have hnm : b.name = b.id := by unfold Blk.name; rw [if_pos h1]
  rw [hnm] at hs5 bad
  simp only [Ai hs5.blk]
  refine Af (GI (hs5.tr hr) b.id) ?_
  rintro _ w6 ⟨rfl, hf6⟩
  have hs6 := hs5.old hf6
  rw [Aj]
  refine ⟨fun h => ?_, fun h => ?_⟩
  · exact bad w6 110 hs6 (by unfold addE; rw [if_neg (by simpa using h1), if_pos h]) (by decide)
  have h2 : ¬ has t N b.id = true := by rw [h]; simp
  simp only [fx, Nat.reduceAdd, forall_const, AA (Sep.p2 hs6).blk, Am (Sep.p2 hs6).blk, Ap (Sep.p2 hs6).blk, Ay (Sep.p2 hs6).blk]
  refine Af (Wk (hs6.tr hr) b.p) ?_
  rintro _ w7 ⟨rfl, hf7⟩
  have hs7 := hs6.old hf7
  simp only [fx, Nat.reduceAdd, forall_const, AA (Sep.p2 hs7).blk, Am (Sep.p2 hs7).blk, Ap (Sep.p2 hs7).blk, Ay (Sep.p2 hs7).blk]
  rw [Aj]
  refine ⟨fun h => ?_, fun h => ?_⟩
  · refine bad w7 31 hs7 ?_ (by decide)
    unfold addE
    rw [if_neg (by simpa using h1), if_neg h2, if_pos]
    simp only [Bool.or_eq_true, Bool.not_eq_true', decide_eq_true_eq, bne_iff_ne, ne_eq] at h
    rcases h with (h | h) | h
    · exact .inl h
    · exact .inr (.inl h)
    · by_cases h4 : b.h < 1
      · exact .inr (.inl h4)
      · rw [wi64 (by omega) (by unfold maxI at hh; omega)] at h
        exact .inr (.inr h)
  simp only [Bool.or_eq_false_iff, Bool.not_eq_false', decide_eq_false_iff_not, bne_eq_false_iff_eq] at h
  obtain ⟨⟨h3, h4⟩, h5⟩ := h
  rw [wi64 (by omega) (by unfold maxI at hh; omega)] at h5
  have h31 : ¬ (has t N b.p = false ∨ b.h < 1 ∨ b.h - 1 ≠ levH t N b.p) := by
    rintro (h | h | h)
    · rw [h3] at h; cases h
    · exact h4 h
    · exact h h5
  refine CT hs7 fun w8 hs8 _ => ?_
  obtain ⟨T, fr, hc⟩ := (hs8.tr hr).cell
  simp only [fx, Nat.reduceAdd, forall_const, DC hc, Ci hc, BU hc, BM hc, B6 hc, A7 hc, BR hc]
  rw [(hs8.tr hr).mlen (by omega)]
  simp only [fx, Nat.reduceAdd, forall_const]
  rw [Aj]
  refine ⟨fun h => ?_, fun h => ?_⟩
  · have h : t.most ≤ (N.length : Int) := by simpa using h
    exact bad w8 6 hs8 (by unfold addE; rw [if_neg (by simpa using h1), if_neg h2, if_neg h31, if_pos h]) (by decide)
  have h6 : ¬ t.most ≤ (N.length : Int) := by simpa using h
  have hE : addE t N b = 0 := by unfold addE; rw [if_neg (by simpa using h1), if_neg h2, if_neg h31, if_neg h6]
  have hg0 : getE b.id (N.map TN.ent) = none := by
    have h7 : has t N b.id = false := by simpa using h2
    unfold has at h7
    simp only [Bool.or_eq_false_iff] at h7
    have h8 := Zz b.id N
    rw [h7.2] at h8
    cases hgE : getE b.id (N.map TN.ent) with
    | none => rfl
    | some x => rw [hgE] at h8; cases h8
  have hsA := hs.join hs8
  refine A0 hsA fun w9 hs9 hh9 => ?_
  refine AF (v := .map (some gm)) (fun u hu K hk => (A7 (Sep.p3 hu).blk K).mpr hk) ?_
  refine ⟨kv b.id, fun u hu => (Ai (Sep.blk hu) _).mpr rfl, ?_⟩
  refine ⟨bq b v, fun u hu => (AA (Sep.blk (Sep.p2 hu)) _).mpr rfl, ?_⟩
  have hl : b.d.length ≤ 200 := by
    unfold Blk.chk at h1
    split at h1
    · cases h1
    · omega
  refine AL (Af (Lm (b := b) (v := v) (by rw [hh9]; exact hb.fr hs8.fr0 (D8 _)) (by omega)) ?_)
  rintro _ w10 ⟨vd, rfl, hs10⟩
  have hs10' := hs9.join hs10
  refine ⟨Sep.tail hs10', ?_⟩
  obtain ⟨E, hEO, hs10e⟩ := Uv (Sep.p5 hs10')
  refine ND (N7 (c := c) Cq KT hs10e (by rw [hEO.get]; exact hg0) fun w11 hs11 => ?_)
  replace hs11 := Mx (hEO.add (c' := c) hg0) hs11
  refine A0 hs11 fun w12 hs12 _ => ?_
  refine AF (v := ov) (fun u hu K hk => (BR (Sep.p5 hu).blk K).mpr hk) ?_
  refine ⟨kv b.id, fun u hu => (Ai (Sep.p2 hu).blk _).mpr rfl, ?_⟩
  refine AL (CQ hs12 CM (l := [b.id]) (V := fun a => .agg (Rdr.cells (rVec 32) a).toArray) (fun a => rfl) rfl rfl (by decide) (by decide) fun g7 w13 hs13 => ⟨hs13.tail, ?_⟩)
  refine EE (BX CM EB (by simp) (Sep.pick hs13 [7, 0, 1, 2, 3, 4, 5, 6] 8) (Sep.rows hs13) ?_ (by simp; omega) (by simp; omega) fun v14 w14 hs14 => ?_)
  · simp only [List.flatMap_cons, List.flatMap_nil, List.append_nil]
    exact Ca
  have hs15 := Sep.pick hs14 [7, 0, 1, 2, 3, 4, 5, 6] 8
  refine Dd (I6 hs15 (Sep.oneR hs14) fun w16 hs16 => ?_)
  simp only [Ai (Sep.blk (Sep.p5 hs16))]
  refine AE (Sep.pick hs16 [6, 0, 1, 2, 3, 4, 5, 7] 8) fun w17 hs17 => ?_
  simp only [Ai (Sep.blk hs17)]
  refine hR _ _ (.inr ⟨hE, rfl, v14, vd, ?_⟩)
  have hs18 := Sep.pick hs17 [1, 4, 2, 5] 8
  have e2 : (N ++ [(b.id, b, vd, c)]).map (·.1) = N.map (·.1) ++ [b.id] := by simp
  unfold trH
  rw [e2]
  exact hs18
end
theorem AbY {k : Vec 32} {N : List TN} {x : TN} : Bx k (N ++ [x]) = (Bx k N).or (if k = x.1 then some x else none) := by
  unfold Bx
  rw [List.find?_append]
  congr 1
  by_cases h : k = x.1 <;> simp [h]
theorem Hr {k : Vec 32} {N : List TN} {x : TN} : Ba k (N ++ [x]) = (Ba k N).or (if k = x.1 then some x.2.1 else none) := by
  unfold Ba
  rw [AbY]
  cases Bx k N with
  | some y => rfl
  | none => by_cases h : k = x.1 <;> simp [h]
theorem Ji {t : Tr} {N : List TN} {x : TN} {k : Vec 32} (h : has t N k = true) : has t (N ++ [x]) k = true ∧ levH t (N ++ [x]) k = levH t N k := by
  by_cases hr : k = t.root
  · subst hr
    unfold has levH
    simp
  · have hb := ED h hr
    have h2 : Ba k (N ++ [x]) = some (nb k N).1 := by rw [Hr, hb]; rfl
    unfold has levH
    rw [h2, hb, if_neg hr]
    simp
theorem TrW.add {t : Tr} {N : List TN} {b : Blk} {vd : Value} {c : Nat} (hw : TrW t N) (h : addE t N b = 0) : TrW t (N ++ [(b.id, b, vd, c)]) := by
  unfold addE at h
  split at h
  · rename_i h1; exact absurd h h1
  rename_i h1
  split at h
  · cases h
  rename_i h2
  split at h
  · cases h
  rename_i h3
  have h1 : b.chk = 0 := by simpa using h1
  have h2 : has t N b.id = false := by simpa using h2
  have h4 : has t N b.p = true ∧ ¬ b.h < 1 ∧ b.h - 1 = levH t N b.p := by
    refine ⟨?_, fun h => h3 (.inr (.inl h)), ?_⟩
    · cases hp : has t N b.p with
      | true => rfl
      | false => exact absurd (.inl hp) h3
    · by_cases hq : b.h - 1 = levH t N b.p
      · exact hq
      · exact absurd (.inr (.inr hq)) h3
  have hlev : ∀ k, has t N k = true → t.ht ≤ levH t N k := fun k hk => by
    by_cases hr : k = t.root
    · unfold levH; rw [if_pos hr]; omega
    · have hb := ED hk hr
      have := hw.above _ _ hb
      unfold levH
      rw [if_neg hr, hb]
      simp only
      omega
  have hnr : ¬ b.id = t.root := fun he => by
    unfold has at h2
    rw [decide_eq_true he] at h2
    cases h2
  have key : ∀ k b', Ba k (N ++ [(b.id, b, vd, c)]) = some b' → Ba k N = some b' ∨ (k = b.id ∧ b' = b) := fun k b' hk => by
    rw [Hr] at hk
    cases hb : Ba k N with
    | some y => rw [hb] at hk; exact .inl hk
    | none =>
      rw [hb] at hk
      by_cases he : k = b.id
      · simp [he] at hk; exact .inr ⟨he, hk.symm⟩
      · simp [he] at hk
  refine ⟨fun k b' hk => ?_, fun k b' hk => ?_, ?_, fun x hx => ?_⟩
  · rcases key k b' hk with hk | ⟨rfl, rfl⟩
    · obtain ⟨h5, h6⟩ := hw.up k b' hk
      obtain ⟨h7, h8⟩ := Ji (x := (b.id, b, vd, c)) h5
      exact ⟨h7, by rw [h8]; exact h6⟩
    · obtain ⟨h7, h8⟩ := Ji (x := (b'.id, b', vd, c)) h4.1
      exact ⟨h7, by rw [h8, ← h4.2.2]; omega⟩
  · rcases key k b' hk with hk | ⟨rfl, rfl⟩
    · exact hw.above k b' hk
    · have := hlev _ h4.1
      omega
  · rw [Hr, hw.noroot, if_neg (fun he => hnr he.symm)]
    rfl
  · rcases List.mem_append.1 hx with hx | hx
    · exact hw.small x hx
    · obtain rfl : x = (b.id, b, vd, c) := by simpa using hx
      unfold Blk.chk at h1
      split at h1
      · cases h1
      · show b.d.length ≤ 200
        omega
end Go.Fx
namespace Go.Fx
def mvOk (t : Tr) (N : List TN) (k : Vec 32) : Bool := (Ba k N).isSome && decide ((nb k N).1.p = t.root)
def mvT (t : Tr) (N : List TN) (k : Vec 32) : Tr := ⟨k, (nb k N).1.h, t.most⟩
def CB (t : Tr) (N : List TN) (k : Vec 32) : List (Vec 32) := (N.map (·.1)).filter fun x => !under t N x k
def Nw (t : Tr) (N : List TN) (k : Vec 32) : List (Vec 32) := (N.map (·.1)).filter fun x => !decide (x = k) && under t N x k
def mvN (t : Tr) (N : List TN) (k : Vec 32) : List TN := N.filter fun x => !decide (x.1 = k) && under t N x.1 k
theorem XK {n : Nat} {k : Vec n} : ∀ {l : List (Ent n)} {i j : Nat} {v : Value}, CX k l i = some (j, v) → i ≤ j
  | [], _, _, _, h => by simp [CX] at h
  | x :: l, i, j, v, h => by
    unfold CX at h
    split at h
    · simp at h; omega
    · have := XK h; omega
theorem XB {n : Nat} {k : Vec n} {l : List (Ent n)} (h : k ∉ l.map (·.1)) : l.filter (fun x => !decide (x.1 = k)) = l := by
  rw [List.filter_eq_self]
  intro x hx
  have : x.1 ≠ k := fun he => h (he ▸ List.mem_map_of_mem hx)
  simp [this]
theorem AcT {n : Nat} {k : Vec n} {l : List (Ent n)} (hn : (l.map (·.1)).Nodup) : delE k l = l.filter fun x => !decide (x.1 = k) := by
  have go : ∀ (l : List (Ent n)) (i : Nat), (l.map (·.1)).Nodup → (match CX k l i with
      | some (j, _) => l.eraseIdx (j - i)
      | none => l) = l.filter fun x => !decide (x.1 = k) := by
    intro l
    induction l with
    | nil => intro i _; rfl
    | cons x l ih =>
      intro i hn
      simp only [List.map_cons, List.nodup_cons] at hn
      unfold CX
      by_cases hx : k = x.1
      · rw [if_pos hx]
        subst hx
        simp only [Nat.sub_self, List.eraseIdx_zero, List.tail_cons]
        rw [List.filter_cons_of_neg (by simp), XB hn.1]
      · rw [if_neg hx, List.filter_cons_of_pos (by simp; exact fun h => hx h.symm), ← ih (i + 1) hn.2]
        cases hf : CX k l (i + 1) with
        | none => rfl
        | some y =>
          obtain ⟨j, v⟩ := y
          have := XK hf
          simp only
          rw [show j - i = (j - (i + 1)) + 1 by omega, List.eraseIdx_cons_succ]
  unfold delE
  have := go l 0 hn
  cases hf : CX k l 0 with
  | none => rw [hf] at this; exact this
  | some y => rw [hf] at this; exact this
theorem Ahi {w0 w : World} {As : List Asn} {gm c : Nat} {N : List TN} {k : Vec 32} {K : Value → World → Prop} (hs : Sep w0 w (mpN gm N c :: As)) (h : ∀ w', Sep w0 w' (mpN gm (N.filter fun x => !decide (x.1 = k)) c :: As) → K (.tuple #[]) w') :
    efP P (Builtin.delete_ #[AT, Aa] T_ #[.map (some gm), kv k]) w K := by
  obtain ⟨E, hE, hs2⟩ := Uv hs
  refine AiT Cq KT hs2 fun w' hs' => h w' ?_
  rw [AcT hE.nd] at hs'
  exact Mx (hE.filter fun y => !decide (y = k)) hs'
theorem Afa {N : List TN} {G : List (Vec 32)} {x : Vec 32} : (N.filter fun y => !decide (y.1 ∈ G)).filter (fun y => !decide (y.1 = x)) = N.filter fun y => !decide (y.1 ∈ G ++ [x]) := by
  rw [List.filter_filter]
  congr 1
  funext y
  by_cases h1 : y.1 = x <;> by_cases h2 : y.1 ∈ G <;> simp [h1, h2]
section
variable {w0 w w' : World} {As : List Asn} {g gm c : Nat} {ov : Value} {t : Tr} {N : List TN}
theorem XW (hs : Sep w0 w (trH g gm ov t N c ++ As)) (hd : Dat N As) (hw : TrW t N) (hu : (N.map (·.1)).Nodup) (hn : N.length ≤ 1000000) (k : Vec 32) :
    cal P FN [.pointer (some ⟨g, 0, none⟩), kv k] w fun r w' =>
      (mvOk t N k = false ∧ r = .tuple #[.slice none 0 0, .int .i64 4] ∧ Sep w0 w' (trH g gm ov t N c ++ As)) ∨
      (mvOk t N k = true ∧ ∃ gv ov', r = .tuple #[gv, .int .i64 0] ∧ Sep w0 w' (trH g gm ov' (mvT t N k) (mvN t N k) c ++ (rows (rVec 32) gv (CB t N k) :: As))) := by
  have hr := Rl hs hd
  refine UO fun R hR => ?_
  unfold Ll
  refine bx_s (Sep.start w) fun g2 w1 hs1 => ?_
  replace hs1 : Sep w w1 [blk g2 #[.pointer (some ⟨g, 0, none⟩)] DU] := hs1
  refine bxQ hs1 fun g3 w2 hs2 => ?_
  refine Co (Sep.p1 hs2).blk rfl ?_
  refine Af (EV (hs2.tr hr)) ?_
  rintro _ _ ⟨rfl, rfl⟩
  simp only [fx, Nat.reduceAdd, forall_const]
  refine A0 hs2 fun w3 hs3 _ => ?_
  refine AF (v := .pointer (some ⟨g, 0, none⟩)) (fun u hu K hk => Co (Sep.p1 hu).blk rfl hk) ?_
  simp only [fx, Nat.reduceAdd, forall_const]
  refine AF (v := .map (some gm)) (fun u hu K hk => by
    obtain ⟨T, fr, hc⟩ := (hu.tr hr).cell
    exact (A7 hc K).mpr hk) ?_
  refine ⟨kv k, fun u hu => (Ai hu.blk _).mpr rfl, ?_⟩
  refine ⟨.tuple #[(getE k (N.map TN.ent)).getD (bq Blk.none (.slice none 0 0)), .bool (getE k (N.map TN.ent)).isSome], fun u hu => ((hu.tr hr).look k _).mpr rfl, ?_⟩
  rw [Nz, Zz]
  simp only [fx, Nat.reduceAdd, forall_const]
  refine AL (Av hs3 (BF w3) fun g6 w4 hs4 => ⟨hs4.tail, ?_⟩)
  refine A9 (Bm hs4 (Bh (Zy (hs4.tr hr) k).one) fun w5 hs5 => ?_)
  refine CT hs5 fun w6 hs6 _ => ?_
  obtain ⟨T, fr, hc⟩ := (hs6.tr hr).cell
  have hl2 : ∀ K : Value → Prop, ld1 (.pointer (some ⟨g2, 0, none⟩)) w6.heap K = K (.pointer (some ⟨g, 0, none⟩)) := fun K => by rw [Rc (Sep.p2 hs6).blk]; exact CW _ K
  simp only [fx, Nat.reduceAdd, forall_const, AA hs6.blk, Am hs6.blk, Ap hs6.blk, Ay hs6.blk, hl2, DC hc, Ci hc, BU hc, BM hc, B6 hc, A7 hc, BR hc, C0]
  rw [Aj]
  refine ⟨fun h => ?_, fun h => ?_⟩
  · refine hR _ _ (.inl ⟨?_, rfl, hs.old hs6.fr0⟩)
    unfold mvOk
    simp only [Bool.or_eq_true, Bool.not_eq_true'] at h
    rcases h with h | h
    · rw [h, Bool.false_and]
    · rw [h, Bool.and_false]
  have hok : mvOk t N k = true := by
    unfold mvOk
    simp only [Bool.or_eq_false_iff, Bool.not_eq_false'] at h
    rw [h.1, h.2]
    rfl
  refine Af (NS (f := G6) (cap := [.pointer (some ⟨g2, 0, none⟩), .pointer (some ⟨g3, 0, none⟩)]) (so := fun x => !under t N x k) (hs6.tr hr) hn (by kernel_rfl) ?_) ?_
  · intro z x hz
    have hsz := hs6.old hz
    refine Qi fun R hR => ?_
    unfold J5
    refine bxQ (Sep.start z) fun g5 w5 hs5 => ?_
    have h2 := hs5.fr0.blk (Sep.p2 hsz).blk (by simp)
    have h3 := hs5.fr0.blk (Sep.p1 hsz).blk (by simp)
    refine Co h2 rfl ?_
    simp only [Ai hs5.blk, Ai h3]
    refine Af (Nj (TrR.fr (hsz.tr hr) hs5.fr0) hw x k) ?_
    rintro _ w6 ⟨rfl, hf6⟩
    simp only [fx, Nat.reduceAdd, forall_const]
    exact hR _ _ ⟨rfl, (hs5.old hf6).fr0⟩
  rintro gv w7 hs7
  replace hs7 := hs6.join hs7
  rw [Rc (Sep.blk (Sep.p3 hs7))]
  refine ⟨_, rfl, ?_⟩
  refine Af (NS (f := G4) (cap := [.pointer (some ⟨g3, 0, none⟩), .pointer (some ⟨g2, 0, none⟩)]) (so := fun x => !decide (x = k) && under t N x k) (hs7.tr hr) hn (by kernel_rfl) ?_) ?_
  · intro z x hz
    have hsz := hs7.old hz
    refine Qq fun R hR => ?_
    unfold JT
    refine bxQ (Sep.start z) fun g5 w5 hs5 => ?_
    have h2 := hs5.fr0.blk (Sep.blk (Sep.p3 hsz)) (by simp)
    have h3 := hs5.fr0.blk (Sep.blk (Sep.p2 hsz)) (by simp)
    have hl2 : ∀ K : Value → Prop, ld1 (.pointer (some ⟨g2, 0, none⟩)) w5.heap K = K (.pointer (some ⟨g, 0, none⟩)) := fun K => by rw [Rc h2]; exact CW _ K
    simp only [Ai hs5.blk, Ai h3, C0]
    by_cases hx : x = k
    · simp only [hx, decide_true, fx, Nat.reduceAdd, forall_const]
      exact hR _ _ ⟨by simp [hx], hs5.fr0⟩
    · simp only [hx, decide_false, fx, Nat.reduceAdd, forall_const]
      refine Bu ?_
      rw [hl2]
      refine Af (Nj (TrR.fr (hsz.tr hr) hs5.fr0) hw x k) ?_
      rintro _ w6 ⟨rfl, hf6⟩
      simp only [fx, Nat.reduceAdd, forall_const]
      exact hR _ _ ⟨by simp [hx], (hs5.old hf6).fr0⟩
  rintro sv w8 hs8
  replace hs8 := hs7.join hs8
  change Sep w w8 [rows (rVec 32) sv (Nw t N k), rows (rVec 32) gv (CB t N k), blk g6 _ Ao, blk g3 _ Aa, blk g2 _ DU] at hs8
  have hA := hs.join hs8
  obtain ⟨G, hG⟩ : ∃ G, G = CB t N k := ⟨_, rfl⟩
  have hGl : G.length ≤ 1000000 := by
    rw [hG]
    unfold CB
    have := List.length_filter_le (fun x => !under t N x k) (N.map (·.1))
    rw [List.length_map] at this
    omega
  rw [← hG] at hA
  have hA' : Sep w0 w8 (mpN gm (N.filter fun y => !decide (y.1 ∈ G.take 0)) c :: rows (rVec 32) gv G :: blk g3 (Rdr.cells (rVec 32) k).toArray Aa :: blk g2 #[.pointer (some ⟨g, 0, none⟩)] DU :: blk g (Rdr.cells AN (tq t gm ov)).toArray BE ::
      rows (rVec 32) sv (Nw t N k) :: blk g6 (Rdr.cells Aw ((nb k N).1.p, (nb k N).1.h, (nb k N).2)).toArray Ao :: rows (rVec 32) ov (N.map (·.1)) :: As) := by
    have e0 : (N.filter fun y => !decide (y.1 ∈ G.take 0)) = N := List.filter_eq_self.2 fun y _ => by simp
    rw [e0]
    exact Sep.pick hA [6, 1, 3, 4, 5, 0, 2, 7] 8
  have hlen : ∀ K, lenS gv K = K (.int .i64 G.length) := fun K => (Sep.rows hA'.p1).len K
  simp only [hlen]
  refine ⟨fun x z => ∃ i : Nat, x = .int .i64 i ∧ i ≤ G.length ∧ Sep w0 z (mpN gm (N.filter fun y => !decide (y.1 ∈ G.take i)) c :: rows (rVec 32) gv G :: blk g3 (Rdr.cells (rVec 32) k).toArray Aa :: blk g2 #[.pointer (some ⟨g, 0, none⟩)] DU :: blk g (Rdr.cells AN (tq t gm ov)).toArray BE ::
      rows (rVec 32) sv (Nw t N k) :: blk g6 (Rdr.cells Aw ((nb k N).1.p, (nb k N).1.h, (nb k N).2)).toArray Ao :: rows (rVec 32) ov (N.map (·.1)) :: As), fun x _ => (G.length - RowKit.intOf x).toNat, ⟨0, rfl, by omega, hA'⟩, ?_⟩
  rintro _ w9 ⟨i, rfl, hi, hs9⟩ -
  simp only [fx, Nat.reduceAdd, forall_const]
  rw [Aj]
  refine ⟨fun h => ?_, fun h => ?_⟩
  · have hlt : i < G.length := by simp at h; omega
    obtain ⟨x, hx⟩ : ∃ x, G[i]? = some x := ⟨_, List.getElem?_eq_getElem hlt⟩
    change ixs 32 _ _ _
    refine AB.ldN (q := rVec 32) (by decide) (Sep.rows hs9.p1) hx .i64 ?_
    refine Av hs9 (AS w9) fun g11 w10 hs10 => ?_
    refine AE (b := x) hs10 fun w11 hs11 => ?_
    refine A0 hs11 fun w12 hs12 _ => ?_
    refine AF (v := .pointer (some ⟨g, 0, none⟩)) (fun u hu K hk => Co (Sep.blk (Sep.p4 hu)) rfl hk) ?_
    simp only [fx, Nat.reduceAdd, forall_const]
    refine AF (v := .map (some gm)) (fun u hu K hk => (A7 (Sep.p5 hu).blk K).mpr hk) ?_
    refine ⟨kv x, fun u hu => (Ai (Sep.blk hu) _).mpr rfl, ?_⟩
    refine EE (Ahi hs12.p1 fun w13 hs13 => ?_)
    rw [wi64 (by omega) (by omega)]
    refine ⟨⟨i + 1, by simp, by omega, ?_⟩, by simp [RowKit.intOf]; omega⟩
    have e : (N.filter fun y => !decide (y.1 ∈ G.take (i + 1))) = (N.filter fun y => !decide (y.1 ∈ G.take i)).filter fun y => !decide (y.1 = x) := by
      rw [Afa, List.take_add_one, hx]
      rfl
    rw [e]
    exact hs13.d1
  have hge : i = G.length := by simp at h; omega
  rw [hge, List.take_of_length_le (Nat.le_refl _)] at hs9
  clear hlen hA' hA
  refine A0 hs9 fun w10 hs10 _ => ?_
  refine AF (v := .pointer (some ⟨g, 0, none⟩)) (fun u hu K hk => Co (Sep.blk (Sep.p3 hu)) rfl hk) ?_
  simp only [fx, Nat.reduceAdd, forall_const]
  refine AF (v := .map (some gm)) (fun u hu K hk => (A7 (Sep.p4 hu).blk K).mpr hk) ?_
  refine ⟨kv k, fun u hu => (Ai (Sep.blk (Sep.p2 hu)) _).mpr rfl, ?_⟩
  refine EE (Ahi hs10 fun w11 hs11 => ?_)
  have hfin : (N.filter fun y => !decide (y.1 ∈ G)).filter (fun y => !decide (y.1 = k)) = mvN t N k := by
    rw [List.filter_filter, hG]
    unfold mvN
    refine List.filter_congr fun x hx => ?_
    have hxm : x.1 ∈ N.map (·.1) := List.mem_map_of_mem hx
    show (!decide (x.1 = k) && !decide (x.1 ∈ CB t N k)) = _
    congr 1
    have hm : x.1 ∈ CB t N k ↔ under t N x.1 k = false := by
      unfold CB
      rw [List.mem_filter]
      simp [hxm]
    cases hq : under t N x.1 k
    · simp [hm, hq]
    · simp [hm, hq]
  rw [hfin] at hs11
  have hs12 := Sep.pick hs11 [4, 3, 2, 6, 0, 1, 5, 7] 8
  refine ⟨fun u => ∃ q, Sep w0 u (blk g (Rdr.cells AN q).toArray BE :: blk g2 #[.pointer (some ⟨g, 0, none⟩)] DU :: blk g3 (Rdr.cells (rVec 32) k).toArray Aa ::
    blk g6 (Rdr.cells Aw ((nb k N).1.p, (nb k N).1.h, (nb k N).2)).toArray Ao :: mpN gm (mvN t N k) c :: rows (rVec 32) gv G :: rows (rVec 32) sv (Nw t N k) :: rows (rVec 32) ov (N.map (·.1)) :: As), ⟨_, hs12.drew _⟩, ?_⟩
  refine AF (v := .pointer (some ⟨g, 0, none⟩)) (fun u ⟨q, hu⟩ K hk => Co (Sep.blk (Sep.p1 hu)) rfl hk) ?_
  refine AF (v := .pointer (some ⟨g, 0, none⟩)) (fun u ⟨q, hu⟩ K hk => Co (Sep.blk (Sep.p1 hu)) rfl hk) ?_
  refine AF (v := .pointer (some ⟨g, 0, none⟩)) (fun u ⟨q, hu⟩ K hk => Co (Sep.blk (Sep.p1 hu)) rfl hk) ?_
  refine ⟨kv k, fun u ⟨q, hu⟩ => (Ai (Sep.blk (Sep.p2 hu)) _).mpr rfl, ?_⟩
  simp only [fx, Nat.reduceAdd, forall_const]
  refine AF (v := .int .i64 (nb k N).1.h) (fun u ⟨q, hu⟩ K hk => (Ap (Sep.blk (Sep.p3 hu)) K).mpr hk) ?_
  refine AL (P8 (hs12.drew _) Ca fun w13 hs13 => ⟨⟨_, hs13⟩, ?_⟩)
  refine AL (NW hs13 fun w14 hs14 => ⟨⟨_, hs14⟩, ?_⟩)
  refine Dd (I6 hs14 (Sep.oneR (Sep.pick hs14 [6] 7)) fun w15 hs15 => ?_)
  refine hR _ _ (.inr ⟨hok, gv, sv, rfl, ?_⟩)
  have hs16 := Sep.pick hs15 [0, 4, 6, 5] 8
  have e2 : (mvN t N k).map (·.1) = Nw t N k := by
    unfold mvN Nw
    rw [List.filter_map]
    rfl
  subst hG
  unfold trH
  rw [e2]
  exact hs16
end
end Go.Fx
namespace Go.Fx
structure TI (t : Tr) (N : List TN) : Prop where
  w : TrW t N
  nd : (N.map (·.1)).Nodup
  hb : ∀ k, has t N k = true → hgt t N k ≤ N.length
  hi : ∀ x ∈ N, x.2.1.h ≤ maxI
  ht : 0 ≤ t.ht
section
variable {t : Tr} {N : List TN}
theorem TI.nil (h : 0 ≤ t.ht) : TI t [] := ⟨TrW.nil t, by simp, fun k hk => by
  have : k = t.root := by simpa [has, Ba, Bx] using hk
  subst this
  simp [hgt, levH], (fun x hx => by cases hx), h⟩
theorem Li {b : Blk} (h : addE t N b = 0) : b.chk = 0 ∧ has t N b.id = false ∧ has t N b.p = true ∧ 1 ≤ b.h ∧ b.h = levH t N b.p + 1 ∧ (N.length : Int) < t.most := by
  unfold addE at h
  split at h
  · rename_i h1; exact absurd h h1
  rename_i h1
  split at h
  · cases h
  rename_i h2
  split at h
  · cases h
  rename_i h3
  split at h
  · cases h
  rename_i h4
  refine ⟨by simpa using h1, by simpa using h2, ?_, ?_, ?_, by omega⟩
  · cases hp : has t N b.p with
    | true => rfl
    | false => exact absurd (.inl hp) h3
  · by_cases hq : b.h < 1
    · exact absurd (.inr (.inl hq)) h3
    · omega
  · by_cases hq : b.h - 1 = levH t N b.p
    · omega
    · exact absurd (.inr (.inr hq)) h3
theorem RS {k : Vec 32} (h : has t N k = true) : k = t.root ∨ k ∈ N.map (·.1) := by
  unfold has at h
  simp only [Bool.or_eq_true, decide_eq_true_eq] at h
  refine h.imp id fun h => ?_
  unfold Ba Bx at h
  rw [Option.isSome_map, List.find?_isSome] at h
  obtain ⟨x, hx, hk⟩ := h
  have hk : k = x.1 := by simpa using hk
  exact hk ▸ List.mem_map_of_mem hx
theorem Db {k : Vec 32} (h : k = t.root ∨ k ∈ N.map (·.1)) : has t N k = true := by
  unfold has
  rcases h with rfl | h
  · simp
  · obtain ⟨x, hx, rfl⟩ := List.mem_map.1 h
    have : (Ba x.1 N).isSome = true := by
      unfold Ba Bx
      rw [Option.isSome_map, List.find?_isSome]
      exact ⟨x, hx, by simp⟩
    simp [this]
theorem Aiu (hw : TrW t N) {k : Vec 32} (hk : has t N k = true) : t.ht ≤ levH t N k := by
  by_cases hr : k = t.root
  · unfold levH; rw [if_pos hr]; omega
  · have hb := ED hk hr
    have := hw.above _ _ hb
    unfold levH
    rw [if_neg hr, hb]
    simp only
    omega
theorem WU (hw : TrW t N) {k : Vec 32} (hk : has t N k = true) : levH t N k = t.ht + (hgt t N k : Int) := by
  have := Aiu hw hk
  unfold hgt
  omega
theorem TI.add {b : Blk} {vd : Value} {c : Nat} (hi : TI t N) (h : addE t N b = 0) (hm : b.h ≤ maxI) : TI t (N ++ [(b.id, b, vd, c)]) := by
  obtain ⟨h1, h2, h3, h4, h5, h6⟩ := Li h
  have hnm : b.id ∉ N.map (·.1) := fun hm => by rw [Db (.inr hm)] at h2; cases h2
  have hnr : b.id ≠ t.root := fun he => by rw [Db (.inl he)] at h2; cases h2
  refine ⟨hi.w.add h, ?_, fun k hk => ?_, fun x hx => ?_, hi.ht⟩
  · rw [List.map_append, List.nodup_append]
    refine ⟨hi.nd, by simp, fun x hx y hy => ?_⟩
    simp only [List.map_cons, List.map_nil, List.mem_singleton] at hy
    subst hy
    intro he
    exact hnm (he ▸ hx)
  · rw [List.length_append, List.length_singleton]
    by_cases hold : has t N k = true
    · have h7 := Ji (x := (b.id, b, vd, c)) hold
      have h8 := hi.hb k hold
      unfold hgt at h8 ⊢
      rw [h7.2]
      omega
    · have hk' : k = b.id := by
        rcases RS hk with rfl | hm'
        · exact absurd (Db (.inl rfl)) hold
        · rw [List.map_append, List.mem_append] at hm'
          rcases hm' with hm' | hm'
          · exact absurd (Db (.inr hm')) hold
          · simpa using hm'
      subst hk'
      have h8 := hi.hb _ h3
      have hl := WU hi.w h3
      have hb : Ba b.id (N ++ [(b.id, b, vd, c)]) = some b := by
        rw [Hr]
        have : Ba b.id N = none := by
          unfold has at h2
          simp only [Bool.or_eq_false_iff] at h2
          simpa using h2.2
        rw [this]
        simp
      have : levH t (N ++ [(b.id, b, vd, c)]) b.id = b.h := by
        unfold levH
        rw [if_neg hnr, hb]
      unfold hgt
      rw [this, h5, hl]
      omega
  · rcases List.mem_append.1 hx with hx | hx
    · exact hi.hi x hx
    · obtain rfl : x = (b.id, b, vd, c) := by simpa using hx
      exact hm
theorem FH : BB t N t.root = [] := by
  unfold BB
  rw [Ox]
  split <;> rfl
theorem E0 (hw : TrW t N) {k : Vec 32} (h : has t N k = true) (hk : k ≠ t.root) : BB t N k = BB t N (upOf k N) ++ [k] := by
  have h2 := (F5 hw h hk).1
  unfold BB
  rw [if_pos h, if_pos h2, K1 hw h hk, List.reverse_cons]
theorem XL {k : Vec 32} (h : has t N k = false) : BB t N k = [] := by unfold BB; rw [h]; rfl
theorem Ik (hw : TrW t N) {C : Vec 32 → Prop} (h0 : C t.root) (h1 : ∀ k, has t N k = true → k ≠ t.root → C (upOf k N) → C k) : ∀ k, has t N k = true → C k := by
  intro k
  generalize hn : hgt t N k = n
  induction n using Nat.strongRecOn generalizing k with
  | ind n ih =>
    intro hk
    by_cases hr : k = t.root
    · subst hr; exact h0
    · obtain ⟨h2, h3⟩ := F5 hw hk hr
      exact h1 k hk hr (ih _ (by omega) _ rfl h2)
theorem Ags : hgt t N t.root = 0 := by simp [hgt, levH]
theorem On (hw : TrW t N) : ∀ k, has t N k = true → (BB t N k).length = hgt t N k := by
  refine Ik hw (by rw [FH, Ags]; rfl) fun k hk hr ih => ?_
  rw [E0 hw hk hr, List.length_append, ih, (F5 hw hk hr).2]
  rfl
theorem Adt (hw : TrW t N) : ∀ k, has t N k = true → ∀ i x, (BB t N k)[i]? = some x →
    has t N x = true ∧ x ≠ t.root ∧ hgt t N x = i + 1 ∧ (if i = 0 then some t.root else (BB t N k)[i - 1]?) = some (upOf x N) := by
  refine Ik hw (fun i x hx => by rw [FH] at hx; simp at hx) fun k hk hr ih i x hx => ?_
  obtain ⟨h2, h3⟩ := F5 hw hk hr
  have hl := On hw _ h2
  rw [E0 hw hk hr] at hx ⊢
  by_cases hi : i < (BB t N (upOf k N)).length
  · rw [List.getElem?_append_left hi] at hx
    obtain ⟨h4, h5, h6, h7⟩ := ih i x hx
    refine ⟨h4, h5, h6, ?_⟩
    rw [List.getElem?_append_left (by omega)]
    exact h7
  · have hi2 : i = (BB t N (upOf k N)).length := by
      have := (List.getElem?_eq_some_iff.1 hx).1
      rw [List.length_append, List.length_singleton] at this
      omega
    subst hi2
    rw [List.getElem?_append_right (Nat.le_refl _), Nat.sub_self] at hx
    simp only [List.getElem?_cons_zero, Option.some.injEq] at hx
    subst hx
    refine ⟨hk, hr, by rw [h3, hl], ?_⟩
    by_cases h0 : (BB t N (upOf k N)).length = 0
    · rw [if_pos h0]
      by_cases hur : upOf k N = t.root
      · rw [hur]
      · rw [E0 hw h2 hur, List.length_append] at h0
        simp at h0
    · rw [if_neg h0, List.getElem?_append_left (by omega)]
      have hur : upOf k N ≠ t.root := fun he => by rw [he, FH] at h0; exact h0 rfl
      rw [E0 hw h2 hur, List.length_append, List.length_singleton, Nat.add_sub_cancel, List.getElem?_append_right (Nat.le_refl _), Nat.sub_self]
      rfl
theorem Et {a b : Vec 32} (ha : has t N a = true) (hb : has t N b = true) : under t N a b = (decide (b = t.root) || decide (b ∈ BB t N a)) := by
  unfold under BB
  rw [ha, hb, if_pos rfl]
  simp
theorem Ag9 (hw : TrW t N) {k : Vec 32} (hk : has t N k = true) (hr : k ≠ t.root) : (nb k N).1.h = t.ht + (hgt t N k : Int) := by
  rw [← WU hw hk]
  unfold levH
  rw [if_neg hr, ED hk hr]
end
end Go.Fx
namespace Go.Fx
theorem Agk {S : World → Prop} {w : World} {v : Value} {l : List Int} {j : Nat} {a : Int} {K : Value → Prop}
    (hw : S w) (hS : ∀ u, S u → AB (rInt .i64) u.heap v l) (hj : l[j]? = some a) (k : IntKind) (h : K (.int .i64 a)) : ixs 1 v (.int k (j : Int)) fun t => rdS S (fun w => Go.Fx.ld1 t w.heap) K := by
  obtain ⟨g, o, c, rfl⟩ := (hS w hw).form (by decide) hj
  have hlt := (List.getElem?_eq_some_iff.1 hj).1
  rw [DJ _ _ _ _ _ _ _ _ (by omega) (by omega), Int.toNat_natCast]
  refine ⟨.int .i64 a, fun z hz => ?_, h⟩
  have hat := At.of (by decide) (hS z hz) hj
  have e : (rInt .i64).size = 1 := rfl
  rw [e] at hat
  show Go.Fx.ld1 _ z.heap _
  rw [At.ld1 (v := .int .i64 a) hat]
section
variable {w0 w : World} {As : List Asn}
theorem ET {u v : Value} {a b : List (Vec 32)} (ha : AB (rVec 32) w.heap u a) (hb : AB (rVec 32) w.heap v b) (hl : a.length ≤ 1000000) : cal P B8 [u, v] w fun r w' => r = .bool (decide (a = b)) ∧ Fr [] w w' := by
  refine Jo fun R hR => ?_
  unfold FC
  simp only [ha.len, hb.len, fx, Nat.reduceAdd, forall_const]
  rw [Aj]
  refine ⟨fun h => ?_, fun h => ?_⟩
  · have h : a.length ≠ b.length := by simp at h; omega
    exact hR _ _ ⟨by rw [decide_eq_false (fun he => h (by rw [he]))], Fr.refl _ _⟩
  have hab : a.length = b.length := by simp at h; omega
  refine ⟨fun y z => ∃ i : Nat, y = .int .i64 i ∧ i ≤ a.length ∧ a.take i = b.take i ∧ Fr [] w z, fun y _ => (a.length - RowKit.intOf y).toNat, ⟨0, rfl, by omega, by simp, Fr.refl _ _⟩, ?_⟩
  rintro _ w1 ⟨i, rfl, hi, ht, hf⟩ -
  simp only [fx, Nat.reduceAdd, forall_const]
  rw [Aj]
  refine ⟨fun h => ?_, fun h => ?_⟩
  · have hlt : i < a.length := by simp at h; omega
    obtain ⟨x, hx⟩ : ∃ x, a[i]? = some x := ⟨_, List.getElem?_eq_getElem hlt⟩
    obtain ⟨y, hy⟩ : ∃ y, b[i]? = some y := ⟨_, List.getElem?_eq_getElem (by omega)⟩
    refine CT ((Sep.start w).old hf) fun w2 hs2 _ => ?_
    change ixs 32 _ _ _
    refine AB.ldN (q := rVec 32) (by decide) (ha.fr hs2.fr0) hx .i64 ?_
    change ixs 32 _ _ _
    refine AB.ldN (q := rVec 32) (by decide) (hb.fr hs2.fr0) hy .i64 ?_
    rw [C0, Aj]
    refine ⟨fun h => ?_, fun h => ?_⟩
    · have h : ¬ x = y := by simpa using h
      refine hR _ _ ⟨?_, hs2.fr0⟩
      rw [decide_eq_false fun he => h (by rw [he, hy] at hx; simpa using hx.symm)]
    · have h : x = y := by simpa using h
      rw [wi64 (by omega) (by omega)]
      exact ⟨⟨i + 1, by simp, by omega, by rw [List.take_add_one, List.take_add_one, ht, hx, hy, h], hs2.fr0⟩, by simp [RowKit.intOf]; omega⟩
  · have hge : i = a.length := by simp at h; omega
    rw [hge, List.take_of_length_le (Nat.le_refl _), List.take_of_length_le (by omega)] at ht
    exact hR _ _ ⟨by rw [decide_eq_true ht], hf⟩
end
section
variable {w0 w : World} {As : List Asn}
end
end Go.Fx
namespace Go.Fx
abbrev nms (N : List TN) : List (Vec 32) := N.map (·.1)
section
variable {w0 w : World} {As : List Asn}
theorem bldI {r : Vec 32} {K : Value → World → Prop} {Bs : List Asn} (hs : Sep w0 w Bs) (hk : ∀ a z, Sep w0 z (rows (rVec 32) a [r] :: Bs) → K a z) : efP P (Instr.buildSlice Ax 1 #[(0, kv r)]) w K :=
  CQ hs CM (l := [r]) (V := fun a => .agg (Rdr.cells (rVec 32) a).toArray) (fun a => rfl) rfl rfl (by decide) (by decide) fun g7 w7 hs7 => hk _ _ hs7
theorem bldH {h : Int} {K : Value → World → Prop} {Bs : List Asn} (hs : Sep w0 w Bs) (hk : ∀ a z, Sep w0 z (rows (rInt .i64) a [h] :: Bs) → K a z) : efP P (Instr.buildSlice Bb 1 #[(0, .int .i64 h)]) w K :=
  CQ (q := rInt .i64) hs OA (l := [h]) (V := fun a => .int .i64 a) (fun a => rfl) rfl rfl (by decide) (by decide) fun g7 w7 hs7 => hk _ _ hs7
theorem appI {r : Vec 32} {x a : Value} {ids : List (Vec 32)} {K : Value → World → Prop} {Bs : List Asn} (hs : Sep w0 w (rows (rVec 32) x ids :: Bs)) (ha : AB (rVec 32) w.heap a [r]) (hl : ids.length ≤ 1000000)
    (hk : ∀ x' z, Sep w0 z (rows (rVec 32) x' (ids ++ [r]) :: Bs) → K x' z) : efP P (Builtin.append_ #[Ax, Ax] Ax #[x, a]) w K :=
  BX CM EB (by simp) hs ha (by simp only [List.flatMap_cons, List.flatMap_nil, List.append_nil]; exact Ca) (by simp; omega) (by simp; omega) fun v8 w8 hs8 => hk _ _ hs8
theorem appH {h : Int} {y b : Value} {hs' : List Int} {K : Value → World → Prop} {Bs : List Asn} (hs : Sep w0 w (rows (rInt .i64) y hs' :: Bs)) (ha : AB (rInt .i64) w.heap b [h]) (hl : hs'.length ≤ 1000000)
    (hk : ∀ y' z, Sep w0 z (rows (rInt .i64) y' (hs' ++ [h]) :: Bs) → K y' z) : efP P (Builtin.append_ #[Bb, Bb] Bb #[y, b]) w K :=
  BX (q := rInt .i64) OA WF (by simp) hs ha (by simp only [List.flatMap_cons, List.flatMap_nil, List.append_nil]; exact oneI) (by simp; omega) (by simp; omega) fun v8 w8 hs8 => hk _ _ hs8
theorem Af2 {r : Vec 32} {h : Int} {x y : Value} {ids : List (Vec 32)} {hs' : List Int} {K : Value → Value → World → Prop} (hs : Sep w0 w (rows (rVec 32) x ids :: rows (rInt .i64) y hs' :: As)) (hl1 : ids.length ≤ 1000000) (hl2 : hs'.length ≤ 1000000)
    (hk : ∀ x' y' z, Sep w0 z (rows (rVec 32) x' (ids ++ [r]) :: rows (rInt .i64) y' (hs' ++ [h]) :: As) → K x' y' z) :
    (efS (fun u => Sep w0 u As) (efP P (Instr.buildSlice Ax 1 #[(0, kv r)])) w fun a w =>
      (efS (fun u => Sep w0 u As) (efP P (Builtin.append_ #[Ax, Ax] Ax #[x, a])) w fun x' w =>
        efS (fun u => Sep w0 u As) (efP P (Instr.buildSlice Bb 1 #[(0, .int .i64 h)])) w fun b w =>
        efC (efP P (Builtin.append_ #[Bb, Bb] Bb #[y, b])) w fun S y' w => K x' y' w) ∧
      ((efS (fun u => Sep w0 u As) (efP P (Instr.buildSlice Bb 1 #[(0, .int .i64 h)])) w fun b w =>
        efS (fun u => Sep w0 u As) (efP P (Builtin.append_ #[Ax, Ax] Ax #[x, a])) w fun x' w =>
        efC (efP P (Builtin.append_ #[Bb, Bb] Bb #[y, b])) w fun S y' w => K x' y' w) ∧ True)) ∧
    ((efS (fun u => Sep w0 u As) (efP P (Instr.buildSlice Bb 1 #[(0, .int .i64 h)])) w fun b w =>
      efS (fun u => Sep w0 u As) (efP P (Instr.buildSlice Ax 1 #[(0, kv r)])) w fun a w =>
      efS (fun u => Sep w0 u As) (efP P (Builtin.append_ #[Ax, Ax] Ax #[x, a])) w fun x' w =>
      efC (efP P (Builtin.append_ #[Bb, Bb] Bb #[y, b])) w fun S y' w => K x' y' w) ∧ True) := by
  refine ⟨?_, ?_, trivial⟩
  · refine AL (bldI hs fun a z hz => ⟨hz.tail.tail.tail, ?_, ?_, trivial⟩)
    · refine AL (appI hz.p1 (Sep.rows hz) hl1 fun x' z' hz' => ⟨hz'.tail.tail.tail, ?_⟩)
      refine AL (bldH hz' fun b z2 hz2 => ⟨hz2.tail.tail.tail.tail, ?_⟩)
      refine EE (appH (Sep.pick hz2 [3, 0, 1, 2] 4) (Sep.rows hz2) hl2 fun y' z3 hz3 => hk _ _ _ ?_)
      exact Sep.pick hz3 [2, 0] 4
    · refine AL (bldH hz fun b z2 hz2 => ⟨hz2.tail.tail.tail.tail, ?_⟩)
      refine AL (appI hz2.p2 (Sep.rows hz2.p1) hl1 fun x' z' hz' => ⟨hz'.tail.tail.tail.tail, ?_⟩)
      refine EE (appH (Sep.pick hz' [3, 0, 1, 2] 4) (Sep.rows hz'.p1) hl2 fun y' z3 hz3 => hk _ _ _ ?_)
      exact Sep.pick hz3 [1, 0] 4
  · refine AL (bldH hs fun b z hz => ⟨hz.tail.tail.tail, ?_⟩)
    refine AL (bldI hz fun a z2 hz2 => ⟨hz2.tail.tail.tail.tail, ?_⟩)
    refine AL (appI hz2.p2 (Sep.rows hz2) hl1 fun x' z' hz' => ⟨hz'.tail.tail.tail.tail, ?_⟩)
    refine EE (appH (Sep.pick hz' [3, 0, 1, 2] 4) (Sep.rows hz'.p2) hl2 fun y' z3 hz3 => hk _ _ _ ?_)
    exact Sep.pick hz3 [1, 0] 4
end
end Go.Fx
namespace Go.Fx
structure TM (t : Tr) (N : List TN) (m : Nat) : Prop where
  w : TrW t N
  nd : (N.map (·.1)).Nodup
  hb : ∀ k, has t N k = true → hgt t N k ≤ m
  hi : ∀ x ∈ N, x.2.1.h ≤ maxI
  ht : 0 ≤ t.ht
section
variable {t : Tr} {N : List TN} {m : Nat}
theorem TI.tm (h : TI t N) : TM t N N.length := ⟨h.w, h.nd, h.hb, h.hi, h.ht⟩
theorem TM.mono {m' : Nat} (h : TM t N m) (hm : m ≤ m') : TM t N m' := ⟨h.w, h.nd, fun k hk => Nat.le_trans (h.hb k hk) hm, h.hi, h.ht⟩
theorem TM.nil (h : 0 ≤ t.ht) : TM t [] m := (TI.nil h).tm.mono (Nat.zero_le _)
theorem TM.add {b : Blk} {vd : Value} {c : Nat} (hi : TM t N m) (h : addE t N b = 0) (hm : b.h ≤ maxI) : TM t (N ++ [(b.id, b, vd, c)]) (m + 1) := by
  obtain ⟨h1, h2, h3, h4, h5, h6⟩ := Li h
  have hnm : b.id ∉ N.map (·.1) := fun hm => by rw [Db (.inr hm)] at h2; cases h2
  have hnr : b.id ≠ t.root := fun he => by rw [Db (.inl he)] at h2; cases h2
  refine ⟨hi.w.add h, ?_, fun k hk => ?_, fun x hx => ?_, hi.ht⟩
  · rw [List.map_append, List.nodup_append]
    refine ⟨hi.nd, by simp, fun x hx y hy => ?_⟩
    simp only [List.map_cons, List.map_nil, List.mem_singleton] at hy
    subst hy
    intro he
    exact hnm (he ▸ hx)
  · by_cases hold : has t N k = true
    · have h7 := Ji (x := (b.id, b, vd, c)) hold
      have h8 := hi.hb k hold
      unfold hgt at h8 ⊢
      rw [h7.2]
      omega
    · have hk' : k = b.id := by
        rcases RS hk with rfl | hm'
        · exact absurd (Db (.inl rfl)) hold
        · rw [List.map_append, List.mem_append] at hm'
          rcases hm' with hm' | hm'
          · exact absurd (Db (.inr hm')) hold
          · simpa using hm'
      subst hk'
      have h8 := hi.hb _ h3
      have hl := WU hi.w h3
      have hb : Ba b.id (N ++ [(b.id, b, vd, c)]) = some b := by
        rw [Hr]
        have : Ba b.id N = none := by
          unfold has at h2
          simp only [Bool.or_eq_false_iff] at h2
          simpa using h2.2
        rw [this]
        simp
      have : levH t (N ++ [(b.id, b, vd, c)]) b.id = b.h := by
        unfold levH
        rw [if_neg hnr, hb]
      unfold hgt
      rw [this, h5, hl]
      omega
  · rcases List.mem_append.1 hx with hx | hx
    · exact hi.hi x hx
    · obtain rfl : x = (b.id, b, vd, c) := by simpa using hx
      exact hm
theorem Kk (p : Vec 32 → Bool) (k : Vec 32) : ∀ N : List TN, Bx k (N.filter fun x => p x.1) = if p k = true then Bx k N else none
  | [] => by simp [Bx]
  | x :: N => by
    have ih := Kk p k N
    unfold Bx at ih ⊢
    by_cases hk : k = x.1
    · subst hk
      by_cases hp : p x.1 = true
      · rw [List.filter_cons_of_pos (p := fun x : TN => p x.1) hp, if_pos hp]
        simp
      · rw [List.filter_cons_of_neg (p := fun x : TN => p x.1) hp, ih, if_neg hp, if_neg hp]
    · rw [List.find?_cons_of_neg (by simpa using hk), ← ih]
      by_cases hp : p x.1 = true
      · rw [List.filter_cons_of_pos (p := fun x : TN => p x.1) hp, List.find?_cons_of_neg (by simpa using hk)]
      · rw [List.filter_cons_of_neg (p := fun x : TN => p x.1) hp]
theorem Z1 (p : Vec 32 → Bool) (k : Vec 32) (N : List TN) : Ba k (N.filter fun x => p x.1) = if p k = true then Ba k N else none := by
  unfold Ba
  rw [Kk]
  split <;> rfl
theorem Afw (p : Vec 32 → Bool) (k : Vec 32) (N : List TN) (h : p k = true) : nb k (N.filter fun x => p x.1) = nb k N := by
  unfold nb
  rw [Kk, if_pos h]
theorem AfP (t : Tr) (N : List TN) (k : Vec 32) : mvN t N k = N.filter fun x => (fun y => !decide (y = k) && under t N y k) x.1 := rfl
theorem QP {k x : Vec 32} : Ba x (mvN t N k) = if x ≠ k ∧ under t N x k = true then Ba x N else none := by
  rw [AfP, Z1 (fun y => !decide (y = k) && under t N y k)]
  by_cases h1 : x = k <;> by_cases h2 : under t N x k = true <;> simp [h1, h2]
theorem D7 {k : Vec 32} {b : Blk} (h : Ba k N = some b) : has t N k = true := by unfold has; rw [h]; simp
theorem DX (hw : TrW t N) {k : Vec 32} {b : Blk} (h : Ba k N = some b) : k ≠ t.root := fun he => by rw [he, hw.noroot] at h; cases h
theorem FF {k : Vec 32} (h : mvOk t N k = true) : Ba k N = some (nb k N).1 ∧ upOf k N = t.root := by
  unfold mvOk at h
  simp only [Bool.and_eq_true, decide_eq_true_eq] at h
  refine ⟨?_, h.2⟩
  rcases Wr (k := k) (N := N) with ⟨h1, _⟩ | h1
  · rw [h1] at h; cases h.1
  · exact h1
theorem AiS (hw : TrW t N) {k x : Vec 32} (hk : mvOk t N k = true) (hx : has t N x = true) (hne : x ≠ k) (hu : under t N x k = true) : x ≠ t.root ∧ has t N (upOf x N) = true ∧ (upOf x N = k ∨ under t N (upOf x N) k = true) := by
  obtain ⟨hkb, hkp⟩ := FF hk
  have hkh : has t N k = true := D7 hkb
  have hkr := DX hw hkb
  rw [Et hx hkh] at hu
  simp only [Bool.or_eq_true, decide_eq_true_eq] at hu
  have hu : k ∈ BB t N x := hu.resolve_left hkr
  have hxr : x ≠ t.root := fun he => by rw [he, FH] at hu; cases hu
  have h2 := (F5 hw hx hxr).1
  refine ⟨hxr, h2, ?_⟩
  rw [E0 hw hx hxr, List.mem_append] at hu
  rcases hu with hu | hu
  · right
    rw [Et h2 hkh, decide_eq_true hu, Bool.or_true]
  · exact absurd (by simpa using hu) (Ne.symm hne)
theorem Agf {k x : Vec 32} (hw : TrW t N) (hk : mvOk t N k = true) (h : has (mvT t N k) (mvN t N k) x = true) : has t N x = true ∧ levH (mvT t N k) (mvN t N k) x = levH t N x := by
  obtain ⟨hkb, hkp⟩ := FF hk
  by_cases hx : x = k
  · subst hx
    refine ⟨D7 hkb, ?_⟩
    unfold levH
    rw [if_pos (show x = (mvT t N x).root from rfl), if_neg (DX hw hkb), hkb]
    rfl
  · have hb := ED h (show x ≠ (mvT t N k).root from hx)
    have hb2 := hb
    rw [QP] at hb
    split at hb
    · rename_i hu
      refine ⟨D7 hb, ?_⟩
      unfold levH
      rw [if_neg (show x ≠ (mvT t N k).root from hx), if_neg (DX hw hb), hb2, hb]
    · cases hb
theorem TM.move {k : Vec 32} (hi : TM t N m) (hk : mvOk t N k = true) : TM (mvT t N k) (mvN t N k) m := by
  have hw := hi.w
  obtain ⟨hkb, hkp⟩ := FF hk
  have hkh : has t N k = true := D7 hkb
  have hkr := DX hw hkb
  have hkl : levH t N k = (nb k N).1.h := by unfold levH; rw [if_neg hkr, hkb]
  have hmem : ∀ x b, Ba x (mvN t N k) = some b → x ≠ k ∧ under t N x k = true ∧ Ba x N = some b := fun x b h => by
    rw [QP] at h
    split at h
    · rename_i hu; exact ⟨hu.1, hu.2, h⟩
    · cases h
  have hpar : ∀ x b, Ba x (mvN t N k) = some b → has (mvT t N k) (mvN t N k) b.p = true := fun x b h => by
    obtain ⟨h1, h2, h3⟩ := hmem x b h
    obtain ⟨h4, h5, h6⟩ := AiS hw hk (D7 h3) h1 h2
    have e : b.p = upOf x N := by
      have := ED (D7 (t := t) h3) h4
      rw [h3] at this
      simp only [Option.some.injEq] at this
      unfold upOf
      rw [← this]
    rw [e]
    by_cases hp : upOf x N = k
    · rw [hp]; exact Db (.inl rfl)
    · have hu := h6.resolve_left hp
      have hpr : upOf x N ≠ t.root := fun he => by
        rw [he, Et (Db (.inl rfl)) hkh, FH] at hu
        simp [hkr] at hu
      unfold has
      rw [QP, if_pos ⟨hp, hu⟩, ED h5 hpr]
      simp
  have hgt : ∀ x b, Ba x (mvN t N k) = some b → (nb k N).1.h < b.h := fun x b h => by
    obtain ⟨h1, h2, h3⟩ := hmem x b h
    have hxh := D7 (t := t) h3
    rw [Et hxh hkh] at h2
    simp only [Bool.or_eq_true, decide_eq_true_eq] at h2
    have h2 : k ∈ BB t N x := h2.resolve_left hkr
    obtain ⟨j, hj⟩ := List.mem_iff_getElem?.1 h2
    have h4 := Adt hw x hxh j k hj
    have hxr : x ≠ t.root := fun he => by rw [he, FH] at h2; cases h2
    have hlx := On hw x hxh
    have hjl := (List.getElem?_eq_some_iff.1 hj).1
    have hlast : (BB t N x)[(BB t N x).length - 1]? = some x := by
      rw [E0 hw hxh hxr]
      simp
    have hjne : j ≠ (BB t N x).length - 1 := fun he => by
      rw [he, hlast] at hj
      exact h1 (by simpa using hj)
    have hbx := Ag9 hw hxh hxr
    have hbk := Ag9 hw hkh hkr
    have e : (nb x N).1 = b := by
      have := ED hxh hxr
      rw [h3] at this
      simpa using this.symm
    rw [e] at hbx
    omega
  refine ⟨⟨fun x b h => ⟨hpar x b h, ?_⟩, hgt, ?_, fun x hx => hw.small x (List.mem_filter.1 hx).1⟩, ?_, fun x hx => ?_, fun x hx => hi.hi x (List.mem_filter.1 hx).1, ?_⟩
  · rw [(Agf hw hk (hpar x b h)).2]
    exact (hw.up x b (hmem x b h).2.2).2
  · rw [QP]
    exact if_neg fun h => h.1 rfl
  · exact hi.nd.sublist (List.filter_sublist.map _)
  · obtain ⟨h1, h2⟩ := Agf hw hk hx
    have h3 := hi.hb x h1
    have h4 := hw.above k _ hkb
    unfold Go.Fx.hgt at h3 ⊢
    rw [h2]
    show (levH t N x - (nb k N).1.h).toNat ≤ m
    omega
  · have h4 := hw.above k _ hkb
    have h5 := hi.ht
    show 0 ≤ (nb k N).1.h
    omega
end
end Go.Fx
namespace Go.Fx
def TN.nd (x : TN) : Vec 32 × Vec 32 × Int × Value := (x.1, x.2.1.p, x.2.1.h, x.2.2.1)
structure RfR (h : Heap) (g : Nat) (lv : Value) (t : Tr) (N : List TN) : Prop where
  cell : ∃ T fr, h[g]? = some (.cells (Rdr.cells AO (t.root, t.ht, t.most, lv)).toArray T fr)
  rw : AB AI h lv (N.map TN.nd)
  dat : ∀ x ∈ N, RdB h x.2.2.1 x.2.1.d
def rfH (g : Nat) (lv : Value) (t : Tr) (N : List TN) : List Asn := [blk g (Rdr.cells AO (t.root, t.ht, t.most, lv)).toArray BZ, rows AI lv (N.map TN.nd)]
def Dv (k : Vec 32) : List TN → Nat → Option Nat
  | [], _ => none
  | x :: N, i => if k = x.1 then some i else Dv k N (i + 1)
def plI (o : Option Nat) : Int := match o with | some i => (i : Int) | none => -1
theorem I0 {k : Vec 32} : ∀ {N : List TN} {i : Nat}, (match Dv k N i with
    | some j => i ≤ j ∧ Bx k N = N[j - i]? ∧ j - i < N.length
    | none => Bx k N = none)
  | [], i => by simp [Dv, Bx]
  | x :: N, i => by
    unfold Dv
    by_cases hk : k = x.1
    · rw [if_pos hk]
      simp [Bx, hk]
    · rw [if_neg hk]
      have ih := I0 (k := k) (N := N) (i := i + 1)
      have e : Bx k (x :: N) = Bx k N := by unfold Bx; rw [List.find?_cons_of_neg (by simpa using hk)]
      cases hp : Dv k N (i + 1) with
      | none => rw [hp] at ih; simp only at ih ⊢; rw [e]; exact ih
      | some j =>
        rw [hp] at ih
        simp only at ih ⊢
        obtain ⟨h1, h2, h3⟩ := ih
        refine ⟨by omega, ?_, by simp; omega⟩
        rw [e, h2, show j - i = (j - (i + 1)) + 1 by omega, List.getElem?_cons_succ]
section
variable {w0 w w' : World} {As : List Asn} {g : Nat} {lv : Value} {t : Tr} {N : List TN}
theorem RfR.fr (h : RfR w.heap g lv t N) (hf : Fr [] w w') : RfR w'.heap g lv t N := by
  obtain ⟨T, fr, hc⟩ := h.cell
  exact ⟨⟨T, fr, hf.blk hc (by simp)⟩, h.rw.fr hf, fun x hx => (h.dat x hx).fr hf (D8 _)⟩
theorem Sep.rf (h : Sep w0 w As) (hr : RfR w0.heap g lv t N) : RfR w.heap g lv t N := hr.fr h.1
theorem Abn (h : Sep w0 w (rfH g lv t N ++ As)) (hd : Dat N As) : RfR w.heap g lv t N := by
  refine ⟨⟨_, _, Sep.blk h⟩, Sep.rows (Sep.tail h), fun x hx => ?_⟩
  obtain ⟨F, hF⟩ := h.onL (A := ownB x.2.2.1 x.2.1.d) (by
    simp only [rfH, List.cons_append, List.mem_cons, List.nil_append]
    exact .inr (.inr (hd x hx)))
  exact OwnB.rd hF
theorem RfR.len (hr : RfR w.heap g lv t N) (K : Value → Prop) : lenS lv K = K (.int .i64 N.length) := by
  have := hr.rw.len K
  rwa [List.length_map] at this
theorem RfR.ix (hr : RfR w.heap g lv t N) {i : Nat} {x : TN} (hi : N[i]? = some x) : ∃ g2 o, At w.heap g2 o (Rdr.cells AI x.nd) ∧ ∀ (k : IntKind) (K : Value → Prop), ixs 66 lv (.int k (i : Int)) K = K (.pointer (some ⟨g2, o, none⟩)) := by
  have h1 : (N.map TN.nd)[i]? = some x.nd := by rw [List.getElem?_map, hi]; rfl
  exact AB.ix (q := AI) (by decide) hr.rw h1
theorem Gn (hr : RfR w.heap g lv t N) (hn : N.length ≤ 1000000) (k : Vec 32) : cal P CA [.pointer (some ⟨g, 0, none⟩), kv k] w fun r w' => r = .int .i64 (plI (Dv k N 0)) ∧ Fr [] w w' := by
  refine Qb fun R hR => ?_
  unfold JX
  refine bxQ (Sep.start w) fun g3 w1 hs1 => ?_
  refine ⟨fun y z => ∃ i : Nat, y = .int .i64 i ∧ i ≤ N.length ∧ Dv k N 0 = Dv k (N.drop i) i ∧ Sep w z [blk g3 (Rdr.cells (rVec 32) k).toArray Aa], fun y _ => (N.length - RowKit.intOf y).toNat, ⟨0, rfl, by omega, rfl, hs1⟩, ?_⟩
  rintro _ w2 ⟨i, rfl, hi, hp, hs2⟩ -
  have hr2 := hs2.rf hr
  obtain ⟨T, fr, hc⟩ := hr2.cell
  simp only [fx, Nat.reduceAdd, forall_const, Bw hc, A3 hc, A8 hc, A2 hc, AV hc, hr2.len]
  rw [Aj]
  refine ⟨fun h => ?_, fun h => ?_⟩
  · have hlt : i < N.length := by simp at h; omega
    obtain ⟨x, hx⟩ : ∃ x, N[i]? = some x := ⟨_, List.getElem?_eq_getElem hlt⟩
    have hdx : N.drop i = x :: N.drop (i + 1) := by
      rw [List.drop_eq_getElem_cons hlt]
      rw [List.getElem?_eq_getElem hlt] at hx
      simp only [Option.some.injEq] at hx
      rw [hx]
    refine CT hs2 fun w3 hs3 _ => ?_
    have hr3 := hs3.rf hr
    obtain ⟨T, fr, hc⟩ := hr3.cell
    obtain ⟨g2, o, ha, hix⟩ := hr3.ix hx
    simp only [fx, Nat.reduceAdd, forall_const, Bw hc, A3 hc, A8 hc, A2 hc, AV hc, hix, C6 ha, Ai hs3.blk, B3]
    rw [Aj]
    refine ⟨fun h => ?_, fun h => ?_⟩
    · have h : x.1 = k := by
        have := of_decide_eq_true h
        exact this
      refine hR _ _ ⟨?_, hs3.fr0⟩
      rw [hp, hdx, Dv, if_pos h.symm]
      rfl
    · have h : ¬ x.1 = k := of_decide_eq_false h
      rw [wi64 (by omega) (by omega)]
      refine ⟨⟨i + 1, by simp, by omega, ?_, hs3⟩, by simp [RowKit.intOf]; omega⟩
      rw [hp, hdx, Dv, if_neg (fun he => h he.symm)]
  · have hge : i = N.length := by simp at h; omega
    rw [hge, List.drop_of_length_le (Nat.le_refl _)] at hp
    refine hR _ _ ⟨by rw [hp]; rfl, hs2.fr0⟩
theorem Af9 (t : Tr) (k : Vec 32) (N : List TN) : has t N k = (decide (k = t.root) || decide (0 ≤ plI (Dv k N 0))) := by
  unfold has
  congr 1
  have h := I0 (k := k) (N := N) (i := 0)
  unfold Ba
  cases hp : Dv k N 0 with
  | none => rw [hp] at h; simp only at h; rw [h]; rfl
  | some j =>
    rw [hp] at h
    simp only [Nat.sub_zero] at h
    rw [h.2.1, List.getElem?_eq_getElem h.2.2]
    simp [plI]
theorem GY (hr : RfR w.heap g lv t N) (hn : N.length ≤ 1000000) (k : Vec 32) : cal P CJ [.pointer (some ⟨g, 0, none⟩), kv k] w fun r w' => r = .bool (has t N k) ∧ Fr [] w w' := by
  refine TH fun R hR => ?_
  unfold LJ
  refine bxQ (Sep.start w) fun g3 w1 hs1 => ?_
  refine A0 hs1 fun w2 hs2 _ => ?_
  refine ⟨kv k, fun u hu => (Ai hu.blk _).mpr rfl, ?_⟩
  simp only [fx, Nat.reduceAdd, forall_const]
  refine ⟨kv t.root, fun u hu => by obtain ⟨T, fr, hc⟩ := (hu.rf hr).cell; exact (A3 hc _).mpr rfl, ?_⟩
  refine ⟨.bool (decide (k = t.root)), fun u hu => (B3 _).mpr rfl, ?_⟩
  rw [Af9] at hR
  by_cases hk : k = t.root
  · simp only [decide_eq_true hk, fx, Nat.reduceAdd, forall_const] at hR ⊢
    exact hR _ _ ⟨rfl, hs2.fr0⟩
  · simp only [decide_eq_false hk, fx, Nat.reduceAdd, forall_const] at hR ⊢
    refine Bu ?_
    refine ⟨kv k, fun u hu => (Ai hu.blk _).mpr rfl, ?_⟩
    refine AL (Af (Gn (hs2.rf hr) hn k) ?_)
    rintro _ w3 ⟨rfl, hf3⟩
    refine ⟨hs2.old hf3, ?_⟩
    simp only [fx, Nat.reduceAdd, forall_const]
    exact hR _ _ ⟨rfl, (hs2.old hf3).fr0⟩
theorem IG {k : Vec 32} {N : List TN} {x : TN} (h : Bx k N = some x) : ∃ i : Nat, plI (Dv k N 0) = (i : Int) ∧ N[i]? = some x ∧ x.1 = k := by
  have hp := I0 (k := k) (N := N) (i := 0)
  cases hq : Dv k N 0 with
  | none => rw [hq] at hp; simp only at hp; rw [hp] at h; cases h
  | some j =>
    rw [hq] at hp
    simp only [Nat.sub_zero] at hp
    refine ⟨j, rfl, by rw [← hp.2.1, h], ?_⟩
    have := List.find?_some h
    simpa using (of_decide_eq_true this).symm
theorem KZ {k : Vec 32} {N : List TN} (h : Bx k N = none) : plI (Dv k N 0) = -1 := by
  have hp := I0 (k := k) (N := N) (i := 0)
  cases hq : Dv k N 0 with
  | none => rfl
  | some j =>
    rw [hq] at hp
    simp only [Nat.sub_zero] at hp
    rw [hp.2.1, List.getElem?_eq_none_iff] at h
    omega
theorem Aad (hr : RfR w.heap g lv t N) (hn : N.length ≤ 1000000) (k : Vec 32) (hk : has t N k = true) : cal P Gz [.pointer (some ⟨g, 0, none⟩), kv k] w fun r w' => r = .int .i64 (levH t N k) ∧ Fr [] w w' := by
  refine Pd fun R hR => ?_
  unfold Jc
  refine bxQ (Sep.start w) fun g3 w1 hs1 => ?_
  refine CT hs1 fun w2 hs2 _ => ?_
  obtain ⟨T, fr, hc⟩ := (hs2.rf hr).cell
  simp only [fx, Nat.reduceAdd, forall_const, Bw hc, A3 hc, A8 hc, A2 hc, AV hc, Ai hs2.blk, B3]
  rw [Aj]
  refine ⟨fun h => ?_, fun h => ?_⟩
  · have h : k = t.root := of_decide_eq_true h
    exact hR _ _ ⟨by unfold levH; rw [if_pos h], hs2.fr0⟩
  · have h : ¬ k = t.root := of_decide_eq_false h
    refine Af (Gn (hs2.rf hr) hn k) ?_
    rintro _ w3 ⟨rfl, hf3⟩
    have hs3 := hs2.old hf3
    have hb := ED hk h
    cases hno : Bx k N with
    | none => unfold Ba at hb; rw [hno] at hb; cases hb
    | some x =>
      obtain ⟨i, hi, hx, _⟩ := IG hno
      rw [hi]
      have e0 : decide ((i : Int) < 0) = false := by simp
      have hr3 := hs3.rf hr
      obtain ⟨T, fr, hc⟩ := hr3.cell
      obtain ⟨g2, o, ha, hix⟩ := hr3.ix hx
      simp only [fx, Nat.reduceAdd, forall_const, e0, Bw hc, A3 hc, A8 hc, A2 hc, AV hc, hix, Nat.add_assoc]
      rw [Fi ha]
      refine hR _ _ ⟨?_, hs3.fr0⟩
      unfold levH Ba
      rw [if_neg h, hno]
      rfl
theorem X8 (hr : RfR w.heap g lv t N) (hn : N.length ≤ 1000000) (k : Vec 32) : cal P FS [.pointer (some ⟨g, 0, none⟩), kv k] w fun r w' => r = .tuple #[bq (nb k N).1 (nb k N).2, .int .i64 (if (Ba k N).isSome then 0 else 4)] ∧ Fr [] w w' := by
  refine TZ fun R hR => ?_
  unfold LA
  refine bxQ (Sep.start w) fun g3 w1 hs1 => ?_
  refine Av hs1 (BF w1) fun g4 w2 hs2 => ?_
  simp only [Ai (Sep.p1 hs2).blk]
  refine Af (Gn (hs2.rf hr) hn k) ?_
  rintro _ w3 ⟨rfl, hf3⟩
  have hs3 := hs2.old hf3
  cases hno : Bx k N with
  | none =>
    rw [KZ hno]
    simp only [fx, Nat.reduceAdd, forall_const, show decide ((-1 : Int) < 0) = true from rfl]
    rw [HN]
    refine Bm hs3 (Bh rfl) fun w4 hs4 => ?_
    simp only [AA hs4.blk, Am hs4.blk, Ap hs4.blk, Ay hs4.blk]
    refine hR _ _ ⟨?_, hs4.fr0⟩
    unfold nb Ba
    rw [hno]
    rfl
  | some x =>
    obtain ⟨i, hi, hx, _⟩ := IG hno
    rw [hi]
    have e0 : decide ((i : Int) < 0) = false := by simp
    have hr3 := hs3.rf hr
    obtain ⟨T, fr, hc⟩ := hr3.cell
    obtain ⟨g2, o, ha, hix⟩ := hr3.ix hx
    have hxd := hr.dat x (List.mem_of_getElem? hx)
    simp only [fx, Nat.reduceAdd, forall_const, e0, Bw hc, A3 hc, A8 hc, A2 hc, AV hc, hix]
    rw [Nf ha]
    refine Bm hs3 (Bh hxd.one) fun w4 hs4 => ?_
    simp only [AA hs4.blk, Am hs4.blk, Ap hs4.blk, Ay hs4.blk]
    refine hR _ _ ⟨?_, hs4.fr0⟩
    unfold nb Ba
    rw [hno]
    rfl
theorem RfR.nb (hr : RfR w.heap g lv t N) (k : Vec 32) : RdB w.heap (nb k N).2 (nb k N).1.d := by
  unfold Go.Fx.nb
  cases hno : Bx k N with
  | none => exact VY w
  | some x => exact hr.dat x (List.mem_of_find?_eq_some hno)
end
end Go.Fx
namespace Go.Fx
theorem Cl {f : World → (Value → World → Prop) → Prop} {w : World} {K : (World → Prop) → Value → World → Prop} (h : f w fun v w' => ∃ S : World → Prop, S w' ∧ K S v w') : efC f w K := h
def Iter (P : Program) (g : Value) (M : Heap → Prop) (n : Nat) (arg : Nat → World → List Value → Prop) : Prop :=
  ∃ gf cap, g = .func (.func gf) #[] cap ∧ callable P gf = true ∧ ∀ (y : Value) (w0 w : World) (J : Nat → List Asn → Prop) (X : List Asn → Prop) (As : List Asn), y.oneCell' = true → J 0 As → Sep w0 w As →
    (∀ i Bs Ls z, J i Bs → Sep w0 z (Bs ++ Ls) → M z.heap) →
    (∀ i args z Bs Ls, i < n → arg i z args → J i Bs → Sep w0 z (Bs ++ Ls) → calY P y args z fun r z' => (r = .bool true ∧ ∃ Cs, J (i + 1) Cs ∧ Sep w0 z' (Cs ++ Ls)) ∨ (r = .bool false ∧ ∃ Cs, X Cs ∧ Sep w0 z' (Cs ++ Ls))) →
    cal P gf (y :: cap.toList) w fun r z' => r = .tuple #[] ∧ ((∃ Cs, J n Cs ∧ Sep w0 z' Cs) ∨ ∃ Cs, X Cs ∧ Sep w0 z' Cs)
section
variable {w0 w w' : World} {As Bs : List Asn}
theorem Sep.rot (h : Sep w0 w (As ++ Bs)) : Sep w0 w (Bs ++ As) := h.perm List.perm_append_comm
theorem Sep.objUpd {g : Nat} {o : Obj} (o' : Obj) (h : Sep w0 w (.obj g o :: As)) : Sep w0 (Cj w g o') (.obj g o' :: As) := by
  obtain ⟨F, ⟨hb, rfl⟩, hk⟩ := h.upd
  exact hk _ [g] (.obj g o') ⟨DA w g _ _ hb, rfl⟩ (Ey w g _) (Grew.refl _ _)
theorem Sep.objAt {g : Nat} {o : Obj} (h : Sep w0 w (.obj g o :: As)) : w.heap[g]? = some o := by
  obtain ⟨F, ⟨hb, rfl⟩, hk⟩ := h.upd
  exact hb
theorem Adv {D : Nat} {K : World → Prop} (hs : Sep w0 w (.obj D dfB :: As)) (h : ∀ w', Sep w0 w' As → K w') : RP [D] w K :=
  ⟨hs.objAt, h _ (hs.objUpd _).tail⟩
theorem Ahp {P : Program} {g : Value} {M : Heap → Prop} {n k : Nat} {arg : Nat → World → List Value → Prop} {rnd : List Value → World → (World → (World → Prop) → Prop) → (Option Code → World → Prop) → Prop}
    {out : Nat → List (Option Code × (World → Prop))} (hs : Sep w0 w As) (hit : Iter P g M n arg) (hk : ∀ i z args, arg i z args → args.length = k)
    (J : Nat → List Asn → Prop) (X : Code → List Asn → Prop) (h0 : J 0 As) (hM : ∀ i Bs Ls z, J i Bs → Sep w0 z (Bs ++ Ls) → M z.heap)
    (hrnd : ∀ (i : Nat) (args : List Value) (z : World) (Bs LR LB : List Asn) (bg : World → (World → Prop) → Prop) (fin : Option Code → World → Prop), i < n → J i Bs → arg i z args → Sep w0 z (Bs ++ LR) →
      (∀ z' Cs K, Sep w0 z' (Cs ++ LR) → (∀ z'', Sep w0 z'' (Cs ++ LB) → K z'') → bg z' K) →
      (∀ z' Cs, J (i + 1) Cs → Sep w0 z' (Cs ++ LB) → fin none z') → (∀ j z' Cs, X j Cs → Sep w0 z' (Cs ++ LB) → fin (some j) z') → rnd args z bg fin)
    (hN : ∀ D Bs z, J n Bs → Sep w0 z (.obj D dfB :: Bs) → outL none z (out D)) (hX : ∀ D j Bs z, X j Bs → Sep w0 z (.obj D dfB :: Bs) → outL (some j) z (out D)) : rng P g k w rnd out := by
  obtain ⟨gf, cap, hg, hcal, hI⟩ := hit
  refine ⟨gf, cap, hg, hcal, fun y rec h1 hy => ?_⟩
  have swap2 : ∀ {z : World} {Cs : List Asn} {A B : Asn}, Sep w0 z (Cs ++ [A, B]) → Sep w0 z (A :: B :: Cs) := fun h => Sep.rot h
  have swap3 : ∀ {z : World} {Cs : List Asn} {A B : Asn}, Sep w0 z (A :: B :: Cs) → Sep w0 z (Cs ++ [A, B]) := fun {z Cs A B} h => Sep.rot (As := [A, B]) h
  have hd : ∀ {z : World} {Cs Ls : List Asn} {A : Asn}, Sep w0 z (Cs ++ (A :: Ls)) → Sep w0 z (A :: (Cs ++ Ls)) := fun h => h.perm List.perm_middle
  have bk : ∀ {z : World} {Cs Ls : List Asn} {A : Asn}, Sep w0 z (A :: (Cs ++ Ls)) → Sep w0 z (Cs ++ (A :: Ls)) := fun h => h.perm List.perm_middle.symm
  refine Af (hI y w0 _ (fun i Bs => ∃ Cs, J i Cs ∧ Bs = Cs ++ [.obj (w.heap.size + 1) (rec .ready none), .obj w.heap.size dfB])
    (fun Bs => ∃ j Cs, X j Cs ∧ Bs = Cs ++ [.obj (w.heap.size + 1) (rec .done (some j)), .obj w.heap.size dfB]) (As ++ [.obj (w.heap.size + 1) (rec .ready none), .obj w.heap.size dfB]) h1 ⟨As, h0, rfl⟩ (swap3 ?_) ?_ ?_) ?_
  · have h2 : Sep w0 (w.alloc dfB) (.obj w.heap.size dfB :: As) := hs.new (F' := [w.heap.size]) (Fb w _) (B := .obj w.heap.size dfB) ⟨Ez w _, rfl⟩ (by simp)
    have e : (w.alloc dfB).heap.size = w.heap.size + 1 := by simp
    refine h2.new (F' := [w.heap.size + 1]) (Fb _ _) (B := .obj (w.heap.size + 1) (rec .ready none)) ⟨?_, rfl⟩ (by simp)
    have := Ez (w.alloc dfB) (rec .ready none)
    rwa [e] at this
  · rintro i _ Ls z ⟨Cs, hJ, rfl⟩ hB
    rw [List.append_assoc] at hB
    exact hM i Cs _ z hJ hB
  · rintro i args z _ Ls hi harg ⟨Bs, hJ, rfl⟩ hB
    rw [List.append_assoc] at hB
    refine hy args z _ (hk i z args harg) (hd hB).objAt ?_
    refine hrnd i args z Bs _ (.obj (w.heap.size + 1) (rec .busy none) :: .obj w.heap.size dfB :: Ls) _ _ hi hJ harg hB ?_ ?_ ?_
    · intro z' Cs K hz hK
      exact ⟨(hd hz).objAt, hK _ (bk ((hd hz).objUpd _))⟩
    · intro z' Cs hC hz
      exact ⟨(hd hz).objAt, .inl ⟨rfl, _, ⟨Cs, hC, rfl⟩, by rw [List.append_assoc]; exact bk ((hd hz).objUpd _)⟩⟩
    · intro j z' Cs hC hz
      exact ⟨(hd hz).objAt, .inr ⟨rfl, _, ⟨j, Cs, hC, rfl⟩, by rw [List.append_assoc]; exact bk ((hd hz).objUpd _)⟩⟩
  · rintro v z ⟨-, ⟨_, ⟨Bs, hJ, rfl⟩, hB⟩ | ⟨_, ⟨j, Bs, hX', rfl⟩, hB⟩⟩
    · exact ⟨none, (swap2 hB).objAt, hN _ Bs _ hJ ((swap2 hB).objUpd _).tail⟩
    · exact ⟨some j, (swap2 hB).objAt, hX _ j Bs _ hX' ((swap2 hB).objUpd _).tail⟩
end
end Go.Fx
namespace Go.Fx
section
variable {w0 w w' : World} {As : List Asn} {g : Nat} {lv : Value} {t : Tr} {N : List TN}
theorem Afh {b : Blk} {v : Value} (hs : Sep w0 w (rfH g lv t N ++ As)) (hd : Dat N As) (hb : RdB w.heap v b.d) (hh : b.h ≤ maxI) (hn : N.length ≤ 1000000) :
    cal P Dq [.pointer (some ⟨g, 0, none⟩), bq b v] w fun r w' =>
      (addE t N b ≠ 0 ∧ r = .tuple #[kv (vz 32), .int .i64 (addE t N b)] ∧ Sep w0 w' (rfH g lv t N ++ As)) ∨
      (addE t N b = 0 ∧ r = .tuple #[kv b.id, .int .i64 0] ∧ ∃ lv' vd, Sep w0 w' (rfH g lv' t (N ++ [(b.id, b, vd, 0)]) ++ (ownB vd b.d :: As))) := by
  have hr := Abn hs hd
  refine Ue fun R hR => ?_
  unfold L3
  refine bxQ (Sep.start w) fun g3 w1 hs1 => ?_
  refine Av hs1 (AS w1) fun g4 w2 hs2 => ?_
  simp only [AA (Sep.p1 hs2).blk, Am (Sep.p1 hs2).blk, Ap (Sep.p1 hs2).blk, Ay (Sep.p1 hs2).blk]
  refine Af (AfE (hb.fr hs2.fr0 (D8 _)) hh) ?_
  rintro _ w3 ⟨rfl, hf3⟩
  have hs3 := hs2.old hf3
  simp only [fx, Nat.reduceAdd, forall_const]
  refine Av hs3 (AS w3) fun g6 w4 hs4 => ?_
  refine AE hs4 fun w5 hs5 => ?_
  have bad : ∀ (w6 : World) (e : Int), Sep w w6 [blk g6 (Rdr.cells (rVec 32) b.name).toArray Aa, blk g4 (Rdr.cells (rVec 32) (vz 32)).toArray Aa, blk g3 (Rdr.cells Aw (b.p, b.h, v)).toArray Ao] → addE t N b = e → e ≠ 0 →
      rdP P (Instr.build Aa #[]) w6 fun t20 => stN 32 (.pointer (some ⟨g4, 0, none⟩)) t20 w6 fun w => ldN 32 (.pointer (some ⟨g4, 0, none⟩)) w.heap fun r1 => R (.tuple #[r1, .int .i64 e]) w := fun w6 e hs6 he h0 => by
    rw [IQ]
    refine AE hs6.p1 fun w7 hs7 => ?_
    simp only [Ai hs7.blk]
    exact hR _ _ (.inl ⟨by rw [he]; exact h0, by rw [he], hs.old hs7.fr0⟩)
  rw [Aj]
  refine ⟨fun h => ?_, fun h => ?_⟩
  · have h : b.chk ≠ 0 := by simpa using h
    exact bad w5 b.chk hs5 (by unfold addE; rw [if_pos h]) h
  have h1 : b.chk = 0 := by simpa using h
  have hnm : b.name = b.id := by unfold Blk.name; rw [if_pos h1]
  rw [hnm] at hs5 bad
  simp only [Ai hs5.blk]
  refine Af (GY (hs5.rf hr) hn b.id) ?_
  rintro _ w6 ⟨rfl, hf6⟩
  have hs6 := hs5.old hf6
  rw [Aj]
  refine ⟨fun h => ?_, fun h => ?_⟩
  · exact bad w6 110 hs6 (by unfold addE; rw [if_neg (by simpa using h1), if_pos h]) (by decide)
  have h2 : ¬ has t N b.id = true := by rw [h]; simp
  refine A0 hs6 fun w7 hs7 _ => ?_
  refine ⟨kv b.p, fun u hu => (Am (Sep.blk (Sep.p2 hu)) _).mpr rfl, ?_⟩
  refine Cl (Af (GY (hs7.rf hr) hn b.p) ?_)
  rintro _ w8 ⟨rfl, hf8⟩
  have hs8 := hs7.old hf8
  refine ⟨fun u => Sep w u _, hs8, ?_⟩
  simp only [fx, Nat.reduceAdd, forall_const]
  have k31 : ∀ {z : World}, Sep w z [blk g6 (Rdr.cells (rVec 32) b.id).toArray Aa, blk g4 (Rdr.cells (rVec 32) (vz 32)).toArray Aa, blk g3 (Rdr.cells Aw (b.p, b.h, v)).toArray Ao] → (has t N b.p = false ∨ b.h < 1 ∨ b.h - 1 ≠ levH t N b.p) →
      rdP P (Instr.build Aa #[]) z fun t20 => stN 32 (.pointer (some ⟨g4, 0, none⟩)) t20 z fun w => ldN 32 (.pointer (some ⟨g4, 0, none⟩)) w.heap fun r1 => R (.tuple #[r1, .int .i64 31]) w := fun hz h => bad _ 31 hz (by
    unfold addE
    rw [if_neg (by simpa using h1), if_neg h2, if_pos h]) (by decide)
  by_cases hp : has t N b.p = true
  case neg =>
    have hp : has t N b.p = false := by simpa using hp
    simp only [hp, fx, Nat.reduceAdd, forall_const]
    exact k31 hs8 (.inl hp)
  simp only [hp, fx, Nat.reduceAdd, forall_const]
  refine Bu ?_
  refine AF (v := .int .i64 b.h) (fun u hu K hk => (Ap (Sep.blk (Sep.p2 hu)) K).mpr hk) ?_
  simp only [fx, Nat.reduceAdd, forall_const]
  by_cases h4 : b.h < 1
  case pos =>
    simp only [decide_eq_true h4, fx, Nat.reduceAdd, forall_const]
    exact k31 hs8 (.inr (.inl h4))
  simp only [decide_eq_false h4, fx, Nat.reduceAdd, forall_const]
  refine Bu ?_
  refine ⟨kv b.p, fun u hu => (Am (Sep.blk (Sep.p2 hu)) _).mpr rfl, ?_⟩
  refine AF (v := .int .i64 b.h) (fun u hu K hk => (Ap (Sep.blk (Sep.p2 hu)) K).mpr hk) ?_
  simp only [fx, Nat.reduceAdd, forall_const]
  rw [wi64 (by omega) (by unfold maxI at hh; omega)]
  refine AL (Af (Aad (hs8.rf hr) hn b.p hp) ?_)
  rintro _ w9 ⟨rfl, hf9⟩
  have hs9 := hs8.old hf9
  refine ⟨hs9, ?_⟩
  simp only [fx, Nat.reduceAdd, forall_const]
  rw [Aj]
  refine ⟨fun h => ?_, fun h => ?_⟩
  · have h : b.h - 1 ≠ levH t N b.p := by have := bne_iff_ne.1 h; omega
    exact k31 hs9 (.inr (.inr h))
  have h5 : b.h - 1 = levH t N b.p := by have := (bne_eq_false_iff_eq).1 h; omega
  have h31 : ¬ (has t N b.p = false ∨ b.h < 1 ∨ b.h - 1 ≠ levH t N b.p) := by
    rintro (h | h | h)
    · rw [hp] at h; cases h
    · exact h4 h
    · exact h h5
  refine CT hs9 fun w10 hs10 hh10 => ?_
  have hr10 := hs10.rf hr
  obtain ⟨T, fr, hc⟩ := hr10.cell
  simp only [fx, Nat.reduceAdd, forall_const, Bw hc, A3 hc, A8 hc, A2 hc, AV hc, hr10.len]
  rw [Aj]
  refine ⟨fun h => ?_, fun h => ?_⟩
  · have h : t.most ≤ (N.length : Int) := by simpa using h
    exact bad w10 6 hs10 (by unfold addE; rw [if_neg (by simpa using h1), if_neg h2, if_neg h31, if_pos h]) (by decide)
  have h6 : ¬ t.most ≤ (N.length : Int) := by simpa using h
  have hE : addE t N b = 0 := by unfold addE; rw [if_neg (by simpa using h1), if_neg h2, if_neg h31, if_neg h6]
  have hl : b.d.length ≤ 200 := by
    unfold Blk.chk at h1
    split at h1
    · cases h1
    · omega
  have hsA := hs.join hs10
  refine A0 hsA fun w11 hs11 hh11 => ?_
  refine AF (v := lv) (fun u hu K hk => (AV (Sep.p3 hu).blk K).mpr hk) ?_
  refine ⟨kv b.id, fun u hu => (Ai (Sep.blk hu) _).mpr rfl, ?_⟩
  refine ⟨bq b v, fun u hu => (AA (Sep.blk (Sep.p2 hu)) _).mpr rfl, ?_⟩
  refine AL (Af (Lo (b := b) (v := v) (by rw [hh11]; exact hb.fr hs10.fr0 (D8 _)) (by omega)) ?_)
  rintro _ w12 ⟨vd, rfl, hs12⟩
  have hs12' := hs11.join hs12
  have h1d := Sep.one hs12'
  refine ⟨Sep.tail hs12', ?_⟩
  refine ⟨.agg (Rdr.cells AI (b.id, b.p, b.h, vd)).toArray, fun u hu => by rw [MI], ?_⟩
  refine AL (CQ (q := AI) hs12' Du (l := [(b.id, b.p, b.h, vd)]) (V := fun a => .agg (Rdr.cells AI a).toArray) (fun a => rfl) rfl rfl (by decide) (by decide) fun g7 w13 hs13 => ⟨hs13.tail.tail, ?_⟩)
  refine EE (BX (q := AI) Du FD (by simp) (Sep.pick hs13 [6, 0, 1, 2, 3, 4, 5] 7) (Sep.rows hs13) ?_ (by simp; omega) (by simp; omega) fun v14 w14 hs14 => ?_)
  · simp only [List.flatMap_cons, List.flatMap_nil, List.append_nil]
    exact B2 Ca (B2 Ca (B2 oneI (oneV h1d)))
  have hs15 := Sep.pick hs14 [6, 0, 1, 2, 3, 4, 5] 7
  refine Dd (Fa hs15 (Sep.oneR hs14) fun w16 hs16 => ?_)
  simp only [Ai (Sep.blk (Sep.p4 hs16))]
  refine AE (Sep.pick hs16 [5, 0, 1, 2, 3, 4, 6] 7) fun w17 hs17 => ?_
  simp only [Ai (Sep.blk hs17)]
  refine hR _ _ (.inr ⟨hE, rfl, v14, vd, ?_⟩)
  have e2 : (N ++ [(b.id, b, vd, 0)]).map TN.nd = N.map TN.nd ++ [(b.id, b.p, b.h, vd)] := by simp [TN.nd]
  unfold rfH
  rw [e2]
  exact Sep.pick hs17 [1, 2, 4] 7
theorem Aew (hr : RfR w.heap g lv t N) (hn : N.length ≤ 1000000) (k : Vec 32) : cal P Hw [.pointer (some ⟨g, 0, none⟩), kv k] w fun r w' => Sep w w' [rows (rVec 32) r (if has t N k = true then nms (N.filter fun x => decide (x.2.1.p = k)) else [])] := by
  refine R6 fun R hR => ?_
  unfold KF
  refine bxQ (Sep.start w) fun g3 w1 hs1 => ?_
  refine ⟨fun x y z => ∃ i : Nat, y = .int .i64 i ∧ i ≤ N.length ∧ (has t N k = false → i = 0) ∧ Sep w z [rows (rVec 32) x (nms ((N.take i).filter fun x => decide (x.2.1.p = k))), blk g3 (Rdr.cells (rVec 32) k).toArray Aa], fun _ y _ => (N.length - RowKit.intOf y).toNat, ⟨0, rfl, by omega, fun _ => rfl, hs1.nilR⟩, ?_⟩
  rintro x _ w2 ⟨i, rfl, hi, hh, hs2⟩ -
  have hr2 := hs2.rf hr
  obtain ⟨T, fr, hc⟩ := hr2.cell
  simp only [fx, Nat.reduceAdd, forall_const, Bw hc, A3 hc, A8 hc, A2 hc, AV hc, hr2.len]
  refine Bu ?_
  rw [Ag0]
  refine ⟨fun h => ?_, fun h => ?_⟩
  case refine_2 =>
    have h : decide ((i : Int) < (N.length : Int)) = false := by simpa using h
    have hge : i = N.length := by simp at h; omega
    rw [h]
    simp only [fx, Nat.reduceAdd, forall_const]
    refine hR _ _ ?_
    subst hge
    rw [List.take_of_length_le (Nat.le_refl _)] at hs2
    have := Sep.dropR (As := [_]) hs2
    by_cases hk : has t N k = true
    · rw [if_pos hk]; exact this
    · have hk' : has t N k = false := by simpa using hk
      have hN : N = [] := List.eq_nil_of_length_eq_zero (hh hk')
      rw [if_neg hk]
      rw [hN] at this
      exact this
  have hlt : i < N.length := by simp at h; omega
  rw [h]
  simp only [Ai (Sep.p1 hs2).blk]
  refine Af (GY hr2 hn k) ?_
  rintro _ w3 ⟨rfl, hf3⟩
  have hs3 := hs2.old hf3
  simp only [fx, Nat.reduceAdd, forall_const]
  rw [Aj]
  refine ⟨fun hk => ?_, fun hk => ?_⟩
  · obtain ⟨x1, hx⟩ : ∃ x, N[i]? = some x := ⟨_, List.getElem?_eq_getElem hlt⟩
    have e : (N.take (i + 1)).filter (fun x => decide (x.2.1.p = k)) = (N.take i).filter (fun x => decide (x.2.1.p = k)) ++ (if x1.2.1.p = k then [x1] else []) := by
      rw [List.take_add_one, hx, List.filter_append]
      congr 1
      by_cases h : x1.2.1.p = k <;> simp [h]
    refine ⟨fun y z => Sep w z [rows (rVec 32) y (nms ((N.take (i + 1)).filter fun x => decide (x.2.1.p = k))), blk g3 (Rdr.cells (rVec 32) k).toArray Aa], ?_, ?_⟩
    · refine CT hs3 fun w4 hs4 _ => ?_
      have hr4 := hs4.rf hr
      obtain ⟨T, fr, hc⟩ := hr4.cell
      obtain ⟨g2, o, ha, hix⟩ := hr4.ix hx
      simp only [fx, Nat.reduceAdd, forall_const, Bw hc, A3 hc, A8 hc, A2 hc, AV hc, hix, DY ha, Ai (Sep.p1 hs4).blk, B3]
      rw [Aj]
      refine ⟨fun h => ?_, fun h => ?_⟩
      · have h : x1.2.1.p = k := of_decide_eq_true h
        rw [C6 ha]
        have htl : (nms ((N.take i).filter fun x => decide (x.2.1.p = k))).length ≤ 1000000 := by
          rw [List.length_map]
          exact Nat.le_trans (List.length_filter_le _ _) (Nat.le_trans (List.length_take_le _ _) (by omega))
        refine bldI hs4 fun a z hz => ?_
        refine appI hz.p1 (Sep.rows hz) htl fun x' z' hz' => ?_
        rw [e, if_pos h]
        have e3 : nms ((N.take i).filter (fun x => decide (x.2.1.p = k)) ++ [x1]) = nms ((N.take i).filter fun x => decide (x.2.1.p = k)) ++ [x1.1] := by simp [nms]
        rw [e3]
        exact Sep.pick hz' [0, 2] 3
      · have h : ¬ x1.2.1.p = k := of_decide_eq_false h
        rw [e, if_neg h, List.append_nil]
        exact hs4
    · rintro y z hz _
      rw [wi64 (by omega) (by omega)]
      exact ⟨⟨i + 1, by simp, by omega, (fun h => by rw [hk] at h; cases h), hz⟩, by simp [RowKit.intOf]; omega⟩
  · refine hR _ _ ?_
    have h0 := hh hk
    subst h0
    rw [if_neg (by rw [hk]; simp)]
    exact Sep.dropR (As := [_]) hs3
def VT (t : Tr) (N : List TN) (y : Value) : Nat := if RowKit.intOf y < 0 then 0 else ((N[(RowKit.intOf y).toNat]?).map fun x => hgt t N x.1).getD 0
theorem Abu {i : Nat} {x : TN} (h : N[i]? = some x) : VT t N (.int .i64 (i : Int)) = hgt t N x.1 := by
  unfold VT
  have e : RowKit.intOf (.int .i64 (i : Int)) = (i : Int) := rfl
  rw [e, if_neg (by omega), Int.toNat_natCast, h]
  rfl
theorem AgW : VT t N (.int .i64 (-1)) = 0 := rfl
theorem VM (hr : RfR w.heap g lv t N) (hw : TrW t N) (hn : N.length ≤ 1000000) (a : Vec 32) (hh : hgt t N a ≤ 1000000) : cal P Fj [.pointer (some ⟨g, 0, none⟩), kv a] w fun r w' => Sep w w' [rows (rVec 32) r (BB t N a)] := by
  refine Si fun R hR => ?_
  unfold KG
  refine bxQ (Sep.start w) fun g3 w1 hs1 => ?_
  simp only [Ai hs1.blk]
  refine Af (Gn (hs1.rf hr) hn a) ?_
  rintro _ w2 ⟨rfl, hf2⟩
  have hs2 := hs1.old hf2
  have hpa : (BB t N a).length ≤ 1000000 := by
    cases hha : has t N a with
    | true => rw [On hw a hha]; exact hh
    | false => rw [XL hha]; simp
  refine ⟨fun x y z => ∃ (k : Vec 32) (D : List (Vec 32)), y = .int .i64 (plI (Dv k N 0)) ∧ BB t N k ++ D = BB t N a ∧ Sep w z [rows (rVec 32) x D, blk g3 (Rdr.cells (rVec 32) a).toArray Aa], fun _ y _ => VT t N y, ⟨a, [], rfl, by simp, hs2.nilR⟩, ?_⟩
  rintro x _ w3 ⟨k, D, rfl, hD, hs3⟩ -
  simp only [fx, Nat.reduceAdd, forall_const]
  cases hno : Bx k N with
  | none =>
    rw [KZ hno]
    simp only [fx, Nat.reduceAdd, forall_const, show decide ((0 : Int) ≤ -1) = false from rfl]
    refine hR _ _ ?_
    have hk : BB t N k = [] := by
      by_cases hkr : k = t.root
      · rw [hkr, FH]
      · refine XL ?_
        unfold has Ba
        rw [hno, decide_eq_false hkr]
        rfl
    rw [hk, List.nil_append] at hD
    rw [hD] at hs3
    exact Sep.dropR (As := [_]) hs3
  | some x1 =>
    obtain ⟨i, hi, hx, hx1⟩ := IG hno
    have hb : Ba k N = some x1.2.1 := by unfold Ba; rw [hno]; rfl
    have hkh : has t N k = true := D7 hb
    have hkr := DX hw hb
    have hup : upOf k N = x1.2.1.p := by unfold upOf nb; rw [hno]; rfl
    rw [hi]
    have hr3 := hs3.rf hr
    obtain ⟨T, fr, hc⟩ := hr3.cell
    obtain ⟨g2, o, ha, hix⟩ := hr3.ix hx
    have e0 : decide ((0 : Int) ≤ (i : Int)) = true := by simp
    simp only [fx, Nat.reduceAdd, forall_const, e0, Bw hc, A3 hc, A8 hc, A2 hc, AV hc, hix]
    rw [C6 ha]
    refine bldI hs3 fun a' z hz => ?_
    refine BX CM EB (by simp) hz (Sep.rows hz.p1) (fun u hu => by obtain ⟨y, hy, hu⟩ := List.mem_flatMap.1 hu; exact Ca u hu) (by
      have := congrArg List.length hD
      simp at this ⊢
      omega) (by
      have := congrArg List.length hD
      simp at this ⊢
      omega) fun v8 w8 hs8 => ?_
    have hr8 := hs8.rf hr
    obtain ⟨T, fr, hc⟩ := hr8.cell
    obtain ⟨g2, o, ha, hix⟩ := hr8.ix hx
    simp only [fx, Nat.reduceAdd, forall_const, Bw hc, A3 hc, A8 hc, A2 hc, AV hc, hix]
    rw [DY ha]
    refine Af (Gn hr8 hn x1.2.1.p) ?_
    rintro _ w9 ⟨rfl, hf9⟩
    have hs9 := hs8.old hf9
    refine ⟨⟨x1.2.1.p, k :: D, rfl, ?_, ?_⟩, ?_⟩
    · rw [← hD, E0 hw hkh hkr, hup]
      simp
    · have : x1.nd.1 = k := hx1
      rw [show (k :: D) = [x1.nd.1] ++ D by rw [this]; rfl]
      exact Sep.pick hs9 [0, 2] 3
    · rw [Abu hx, hx1]
      have h2 := (F5 hw hkh hkr).2
      rw [hup] at h2
      cases hno2 : Bx x1.2.1.p N with
      | none =>
        rw [KZ hno2, AgW]
        omega
      | some x2 =>
        obtain ⟨i2, hi2, hx2, hx21⟩ := IG hno2
        rw [hi2, Abu hx2, hx21]
        omega
end
end Go.Fx
namespace Go.Fx
section
variable {P : Program} {n : Nat} {w0 w : World} {As : List Asn}
abbrev mit (gi gm c : Nat) (D : List (Ent n)) : Asn := Asn.obj gi (.mapIter (some gm) c (D.map (·.2.2)).toArray c)
theorem W6 {M T V gm c : Nat} {E : List (Ent n)} {K : Value → World → Prop} (hM : P.underlying M = some (.map T V)) (hs : Sep w0 w As) (hm : w.heap[gm]? = some (.map (ents E) c))
    (h : ∀ gi w', Sep w0 w' (mit (n := n) gi gm c [] :: As) → K (.pointer (some ⟨gi, 0, none⟩)) w') : efP P (Instr.range M (.map (some gm))) w K := by
  refine ⟨.pointer (some ⟨w.heap.size, 0, none⟩), w.alloc (.mapIter (some gm) c #[] c), ?_, h _ _ (hs.new (Fb w _) (B := mit w.heap.size gm c []) ⟨Ez w _, rfl⟩ (by simp))⟩
  unfold Instr.range
  simp only [Sem.run_bind, run_underlying hM, Result.andThen_ok, Is hm, Sem.run_pure]
  rfl
theorem Aan {E : List (Ent n)} {D : List (Ent n)} {e : MapEntry} : e ∈ (leftOf (ents E) (D.map (·.2.2)).toArray).toList ↔ ∃ x ∈ E, e = entM x ∧ x.2.2 ∉ D.map (·.2.2) := by
  unfold leftOf ents
  simp only [Array.toList_filter, List.mem_filter, List.mem_map, Bool.not_eq_true', Array.contains_toList, List.contains_toArray]
  constructor
  · rintro ⟨⟨x, hx, rfl⟩, h⟩
    refine ⟨x, hx, rfl, ?_⟩
    rintro ⟨y, hy, he⟩
    have : (List.map (fun x => x.2.2) D).contains (entM x).born = true := by
      rw [List.contains_iff_mem]
      exact List.mem_map.2 ⟨y, hy, he⟩
    rw [h] at this
    cases this
  · rintro ⟨x, hx, rfl, h⟩
    refine ⟨⟨x, hx, rfl⟩, ?_⟩
    cases hc : (List.map (fun x => x.2.2) D).contains (entM x).born with
    | false => rfl
    | true =>
      rw [List.contains_iff_mem] at hc
      exact absurd (List.mem_map.1 hc) h
theorem Aa0 {gi gm c ty : Nat} {E D : List (Ent n)} {K : Value → World → Prop} (hs : Sep w0 w (mit gi gm c D :: As)) (hm : w.heap[gm]? = some (.map (ents E) c)) (hlt : ∀ x ∈ E, x.2.2 < c)
    (hend : (∀ x ∈ E, x.2.2 ∈ D.map (·.2.2)) → K (.tuple #[.bool false]) w)
    (hstep : ∀ x w', x ∈ E → x.2.2 ∉ D.map (·.2.2) → w'.heap[gm]? = some (.map (ents E) c) → Sep w0 w' (mit gi gm c (D ++ [x]) :: As) → K (.tuple #[.bool true, kv x.1, x.2.1]) w') :
    efP P (Instr.next (.pointer (some ⟨gi, 0, none⟩)) false ty) w K := by
  have hg : w.heap[gi]? = some (.mapIter (some gm) c (D.map (·.2.2)).toArray c) := by
    obtain ⟨F, ⟨hb, rfl⟩, hk⟩ := hs.upd
    exact hb
  have hne : gm ≠ gi := fun he => by rw [he, hg] at hm; cases hm
  rcases run_next_at (P := P) w ty gi gm c c (D.map (·.2.2)).toArray (ents E) c hg hm (fun x hx => by
      obtain ⟨y, hy, rfl⟩ : ∃ y ∈ E, entM y = x := by simpa [ents] using hx
      exact hlt y hy) (Nat.le_refl _) with ⟨h0, hr⟩ | ⟨e, he, w1, hw1, hr⟩
  · refine ⟨_, _, hr, hend fun x hx => ?_⟩
    cases hc : decide (x.2.2 ∈ D.map (·.2.2)) with
    | true => exact of_decide_eq_true hc
    | false =>
      have := Aan.2 ⟨x, hx, rfl, of_decide_eq_false hc⟩
      have h1 : (leftOf (ents E) (D.map (·.2.2)).toArray).toList = [] := List.eq_nil_of_length_eq_zero (by simpa using h0)
      rw [h1] at this
      cases this
  · obtain ⟨x, hx, rfl, hn⟩ := Aan.1 he
    refine ⟨_, _, hr, ?_⟩
    have hs1 : Sep w0 w1 (mit gi gm c D :: As) := by
      rcases hw1 with rfl | rfl
      · exact hs
      · exact hs.drew _
    have hm1 : w1.heap[gm]? = some (.map (ents E) c) := by rcases hw1 with rfl | rfl <;> exact hm
    obtain ⟨F, ⟨hb, rfl⟩, hk⟩ := hs1.upd
    have e1 : (D.map (·.2.2)).toArray.push (entM x).born = ((D ++ [x]).map (·.2.2)).toArray := by
      apply Array.ext'
      simp [entM]
    rw [e1]
    refine hstep x _ hx hn ?_ (hk _ [gi] (mit gi gm c (D ++ [x])) ⟨DA w1 gi _ _ hb, rfl⟩ (Ey w1 gi _) (Grew.refl _ _))
    show (Cj w1 gi _).heap[gm]? = _
    rw [X5 w1 _ hne]
    exact hm1
theorem WO {gi gm c : Nat} {E D : List (Ent n)} {x : Ent n} {h : Heap} (hg : w.heap[gi]? = some (.mapIter (some gm) c ((D ++ [x]).map (·.2.2)).toArray c)) (hm : w.heap[gm]? = some (.map (ents E) c)) (hx : x ∈ E) (hb : (E.map (·.2.2)).Nodup) (K : Value → Prop) :
    rdP P (Instr.entry (.pointer (some ⟨gi, 0, none⟩))) w K = K (.tuple #[kv x.1, x.2.1]) := by
  refine DI ?_ K
  have e1 : (D.map (·.2.2)).toArray.push (entM x).born = ((D ++ [x]).map (·.2.2)).toArray := by
    apply Array.ext'
    simp [entM]
  rw [← e1] at hg
  exact run_entry_at w gi gm c _ (ents E) c (entM x) hg hm (by simp only [ents, List.mem_map]; exact ⟨x, hx, rfl⟩) (by
    have : (ents E).toList.map (·.born) = E.map (·.2.2) := by simp [ents, entM, Function.comp_def]
    rw [this]; exact hb)
theorem G3 {k : Vec n} {v : Value} : ∀ {l : List (Ent n)}, (l.map (·.1)).Nodup → (getE k l = some v ↔ ∃ x ∈ l, x.1 = k ∧ x.2.1 = v)
  | [], _ => by simp [getE]
  | y :: l, hn => by
    rw [List.map_cons, List.nodup_cons] at hn
    have ih := G3 (k := k) (v := v) hn.2
    unfold getE at ih ⊢
    by_cases hk : k = y.1
    · subst hk
      rw [List.find?_cons_of_pos (by simp)]
      simp only [Option.map_some, Option.some.injEq]
      constructor
      · intro h; exact ⟨y, by simp, rfl, h⟩
      · rintro ⟨x, hx, h1, h2⟩
        rcases List.mem_cons.1 hx with rfl | hx
        · exact h2
        · exact absurd (h1 ▸ List.mem_map_of_mem hx) hn.1
    · rw [List.find?_cons_of_neg (by simpa using hk), ih]
      constructor
      · rintro ⟨x, hx, h⟩; exact ⟨x, by simp [hx], h⟩
      · rintro ⟨x, hx, h1, h2⟩
        rcases List.mem_cons.1 hx with rfl | hx
        · exact absurd h1.symm hk
        · exact ⟨x, hx, h1, h2⟩
theorem Af6 {k : Vec n} {l m : List (Ent n)} (hp : l.Perm m) (hn : (l.map (·.1)).Nodup) : getE k l = getE k m := by
  have hn2 : (m.map (·.1)).Nodup := (hp.map _).nodup_iff.1 hn
  cases h1 : getE k l with
  | some v =>
    obtain ⟨x, hx, h⟩ := (G3 hn).1 h1
    exact ((G3 hn2).2 ⟨x, hp.mem_iff.1 hx, h⟩).symm
  | none =>
    cases h2 : getE k m with
    | none => rfl
    | some v =>
      obtain ⟨x, hx, h⟩ := (G3 hn2).1 h2
      rw [(G3 hn).2 ⟨x, hp.mem_iff.2 hx, h⟩] at h1
      cases h1
theorem X4 {k : Vec n} : ∀ {l m : List (Ent n)}, l.map (fun x => (x.1, x.2.1)) = m.map (fun x => (x.1, x.2.1)) → getE k l = getE k m
  | [], [], _ => rfl
  | [], _ :: _, h => by simp at h
  | _ :: _, [], h => by simp at h
  | x :: l, y :: m, h => by
    simp only [List.map_cons, List.cons.injEq, Prod.mk.injEq] at h
    have ih := X4 (k := k) h.2
    unfold getE at ih ⊢
    by_cases hk : k = x.1
    · rw [List.find?_cons_of_pos (by simpa using hk), List.find?_cons_of_pos (by rw [← h.1.1]; simpa using hk)]
      simp [h.1.2]
    · rw [List.find?_cons_of_neg (by simpa using hk), List.find?_cons_of_neg (by rw [← h.1.1]; simpa using hk)]
      exact ih
end
end Go.Fx
namespace Go.Fx
def QD (gi : Nat) (z : World) : Nat := match z.heap[gi]? with
  | some (.mapIter _ _ seen _) => seen.size
  | _ => 0
section
variable {w0 w w' : World} {As : List Asn} {g gm c : Nat} {ov : Value} {t : Tr} {N : List TN}
theorem H1 {v : Value} {l : List (Vec 32)} (hv : AB (rVec 32) w.heap v l) (hl : l.length ≤ 1000000) : cal P B7 [v] w fun r w' => Sep w w' [rows (rVec 32) r l] := by
  refine Ju fun R hR => ?_
  unfold FA
  obtain ⟨a, c, rfl, hl', hh⟩ := id hv
  cases a with
  | none =>
    have h0 : l = [] := by
      rcases hh with h0 | ⟨_, _, _, _, _, h, _⟩
      · refine List.eq_nil_of_length_eq_zero ?_
        have : (rVec 32).size = 32 := rfl
        rw [this] at h0
        omega
      · cases h
    subst h0
    simp only [fx, Nat.reduceAdd, forall_const]
    exact hR _ _ (Sep.start w).nilR
  | some a =>
    simp only [fx, Nat.reduceAdd, forall_const]
    have hb1 : ∀ w : World, (Instr.buildSlice Ax 0 #[]).run P w = .ok (.slice (some ⟨w.heap.size, 0, none⟩) 0 0) (w.alloc (.cells ([] : List Value).toArray Aa)) := fun w => by kernel_rfl
    refine Le (size := 32) (Sep.start w) (cs := []) rfl (hb1 w) fun g w1 hs1 => ?_
    replace hs1 : Sep w w1 [rows (rVec 32) (.slice (some ⟨g, 0, none⟩) 0 0) []] := hs1
    refine BX CM EB (by simp) hs1 (hv.fr hs1.fr0) ?_ (by simp; omega) (by simp; omega) fun v8 w8 hs8 => ?_
    · intro u hu
      obtain ⟨x, hx, hu⟩ := List.mem_flatMap.1 hu
      exact Ca u hu
    · exact hR _ _ (by simpa using hs8)
theorem HQ (hr : TrR w.heap g gm ov t N c) (hn : N.length ≤ 1000000) : cal P C8 [.pointer (some ⟨g, 0, none⟩)] w fun r w' => ∃ g' gm' ov' c', r = .pointer (some ⟨g', 0, none⟩) ∧ Sep w w' (trH g' gm' ov' t N c') := by
  refine R5 fun R hR => ?_
  unfold KD
  refine Af (EV hr) ?_
  rintro _ _ ⟨rfl, rfl⟩
  simp only [fx, Nat.reduceAdd, forall_const]
  refine A0 (Sep.start w) fun w1 hs1 _ => ?_
  refine ⟨fun y z => ∃ g' gm' ov', y = .pointer (some ⟨g', 0, none⟩) ∧ Sep w z [blk g' (Rdr.cells AN (tq t gm' ov')).toArray BE, mp (n := 32) gm' [] 0, rows (rVec 32) ov' (N.map (·.1))], ?_, ?_⟩
  · have rd : ∀ {u : World}, Sep w u [] → ∃ T fr, u.heap[g]? = some (.cells (Rdr.cells AN (tq t gm ov)).toArray T fr) := fun hu => (hu.tr hr).cell
    refine ⟨kv t.root, fun u hu => by obtain ⟨T, fr, hc⟩ := rd hu; exact (BU hc _).mpr rfl, ?_⟩
    refine AF (v := .int .i64 t.ht) (fun u hu K hk => by obtain ⟨T, fr, hc⟩ := rd hu; exact (BM hc K).mpr hk) ?_
    refine AF (v := .int .i64 t.most) (fun u hu K hk => by obtain ⟨T, fr, hc⟩ := rd hu; exact (B6 hc K).mpr hk) ?_
    refine AF (v := ov) (fun u hu K hk => by obtain ⟨T, fr, hc⟩ := rd hu; exact (BR hc K).mpr hk) ?_
    refine ⟨?_, ?_, trivial⟩
    · refine AL (J1 (n := 32) hs1 fun gm' w2 hs2 => ⟨hs2.tail, ?_⟩)
      refine AL (Af (H1 (hr.ord.fr hs2.fr0) (by simpa using hn)) ?_)
      intro ov' w3 hs3
      replace hs3 := hs2.join hs3
      have h1 := Sep.oneR hs3
      refine ⟨hs3.tail.tail, ?_⟩
      refine ⟨.agg (Rdr.cells AN (tq t gm' ov')).toArray, fun u hu => by rw [Hs rfl h1], ?_⟩
      refine bxQ hs3 fun g' w4 hs4 => ?_
      exact ⟨Eq w4, rfl, g', gm', ov', rfl, Sep.pick hs4 [0, 2, 1] 3⟩
    · refine AL (Af (H1 (hr.ord.fr hs1.fr0) (by simpa using hn)) ?_)
      intro ov' w3 hs3
      replace hs3 := hs1.join hs3
      have h1 := Sep.oneR hs3
      refine ⟨hs3.tail, ?_⟩
      refine AL (J1 (n := 32) hs3 fun gm' w2 hs2 => ⟨hs2.tail.tail, ?_⟩)
      refine ⟨.agg (Rdr.cells AN (tq t gm' ov')).toArray, fun u hu => by rw [Hs rfl h1], ?_⟩
      refine bxQ hs2 fun g' w4 hs4 => ?_
      exact ⟨Eq w4, rfl, g', gm', ov', rfl, hs4⟩
  rintro _ w2 ⟨g', gm', ov', rfl, hs2⟩ _
  have hr2 := hs2.tr hr
  obtain ⟨T, fr, hc⟩ := hr2.cell
  simp only [fx, Nat.reduceAdd, forall_const, DC hc, Ci hc, BU hc, BM hc, B6 hc, A7 hc, BR hc]
  obtain ⟨E, hE, hm⟩ := hr.map
  have fm : ∀ {z : World}, Fr [] w z → z.heap[gm]? = some (.map (ents E) c) := fun hf => hf.blk hm (by simp)
  refine W6 Cq hs2 (fm hs2.fr0) fun gi w3 hs3 => ?_
  refine ⟨fun z => ∃ (D U E2 : List (Ent 32)) (c2 : Nat), (D ++ U).Perm E ∧ E2.map (fun x => (x.1, x.2.1)) = D.map (fun x => (x.1, x.2.1)) ∧ (E2.map (·.2.2)).Nodup ∧ (∀ x ∈ E2, x.2.2 < c2) ∧
    Sep w z [mit gi gm c D, blk g' (Rdr.cells AN (tq t gm' ov')).toArray BE, mp gm' E2 c2, rows (rVec 32) ov' (N.map (·.1))], fun z => E.length - QD gi z, ⟨[], E, [], 0, List.Perm.refl _, rfl, by simp, (fun x hx => by cases hx), hs3⟩, ?_⟩
  rintro w4 ⟨D, U, E2, c2, hp, h2, hb2, hlt2, hs4⟩ -
  have hnb : ((D ++ U).map (·.2.2)).Nodup := ((hp.map _).nodup_iff).2 hE.bn
  have hnk : ((D ++ U).map (·.1)).Nodup := ((hp.map _).nodup_iff).2 hE.nd
  have hk2 : E2.map (·.1) = D.map (·.1) := by
    have := congrArg (List.map Prod.fst) h2
    simpa [Function.comp_def] using this
  refine Aa0 (E := E) (D := D) hs4 (fm hs4.fr0) hE.lt (fun hall => ?_) fun x w5 hx hxn hm5 hs5 => ?_
  · simp only [fx, Nat.reduceAdd, forall_const]
    have hU : U = [] := by
      cases U with
      | nil => rfl
      | cons u U =>
        exfalso
        have hu := hall u (hp.mem_iff.1 (by simp))
        rw [List.map_append, List.nodup_append] at hnb
        exact hnb.2.2 _ hu _ (by simp) rfl
    subst hU
    rw [List.append_nil] at hp hnk
    refine hR _ _ ⟨g', gm', ov', c2, rfl, ?_⟩
    have hEO : EOk E2 N c2 := by
      refine ⟨by rw [hk2]; exact (hp.map _).trans hE.pm, by rw [hk2]; exact hnk, fun k => ?_, hb2, hlt2⟩
      rw [X4 h2, Af6 hp hnk, hE.get]
    have := Mx hEO (Sep.p1 (Sep.tail hs4))
    exact Sep.p1 this
  · have hxU : x ∈ U := by
      have := hp.mem_iff.2 hx
      rcases List.mem_append.1 this with h | h
      · exact absurd (List.mem_map_of_mem h) hxn
      · exact h
    obtain ⟨U', hU'⟩ : ∃ U', U.Perm (x :: U') := by
      obtain ⟨s1, s2, rfl⟩ := List.append_of_mem hxU
      exact ⟨s1 ++ s2, List.perm_middle⟩
    have hp' : ((D ++ [x]) ++ U').Perm E := by
      rw [List.append_assoc]
      exact ((hU'.symm.append_left D).trans hp)
    have hlen : D.length + U.length = E.length := by
      have := hp.length_eq
      simpa using this
    have hUl : 0 < U.length := List.length_pos_of_mem hxU
    simp only [fx, Nat.reduceAdd, forall_const]
    have hgi : w5.heap[gi]? = some (.mapIter (some gm) c ((D ++ [x]).map (·.2.2)).toArray c) := by
      obtain ⟨F, ⟨hb, rfl⟩, hk⟩ := hs5.upd
      exact hb
    rw [WO (h := w5.heap) hgi hm5 hx hE.bn]
    obtain ⟨b, v, hbv⟩ : ∃ b v, x.2.1 = bq b v ∧ v.oneCell' = true := by
      have h1 : getE x.1 E = some x.2.1 := (G3 hE.nd).2 ⟨x, hx, rfl, rfl⟩
      rw [hE.get, Ms] at h1
      cases hno : Bx x.1 N with
      | none => rw [hno] at h1; cases h1
      | some y =>
        rw [hno] at h1
        simp only [Option.map_some, Option.some.injEq] at h1
        exact ⟨y.2.1, y.2.2.1, h1.symm, (hr.dat y (List.mem_of_find?_eq_some hno)).one⟩
    simp only [fx, Nat.reduceAdd, forall_const, hbv.1]
    refine Av hs5 (AS w5) fun g4 w6 hs6 => ?_
    refine Av hs6 (BF w6) fun g5 w7 hs7 => ?_
    refine AE (b := x.1) hs7.p1 fun w8 hs8 => ?_
    refine Bm (b := (b.p, b.h, v)) hs8.p1 (Bh hbv.2) fun w9 hs9 => ?_
    refine A0 hs9 fun w10 hs10 _ => ?_
    refine AF (v := .map (some gm')) (fun u hu K hk => (A7 (Sep.blk (Sep.p3 hu)) K).mpr hk) ?_
    refine ⟨kv x.1, fun u hu => (Ai (Sep.blk (Sep.p1 hu)) _).mpr rfl, ?_⟩
    refine ⟨bq b v, fun u hu => (AA (Sep.blk hu) _).mpr rfl, ?_⟩
    have hnx : getE x.1 E2 = none := AaF (by
      rw [hk2]
      intro hm
      rw [(List.Perm.map _ (hU'.append_left D)).nodup_iff, List.map_append, List.nodup_append] at hnk
      exact hnk.2.2 _ hm _ (by simp) rfl)
    refine ND (N7 (c := c2) Cq KT (Sep.p4 hs10) hnx fun w11 hs11 => ?_)
    have hs12 := Sep.pick hs11 [3, 4, 0, 5] 6
    refine ⟨⟨D ++ [x], U', E2 ++ [(x.1, bq b v, c2)], c2 + 1, hp', by simp [h2, hbv.1], ?_, ?_, hs12⟩, ?_⟩
    · rw [List.map_append, List.nodup_append]
      refine ⟨hb2, by simp, fun a ha e he hae => ?_⟩
      obtain ⟨z, hz, rfl⟩ := List.mem_map.1 ha
      have := hlt2 z hz
      simp only [List.map_cons, List.map_nil, List.mem_singleton] at he
      omega
    · intro z hz
      rcases List.mem_append.1 hz with hz | hz
      · have := hlt2 z hz; omega
      · obtain rfl : z = (x.1, bq b v, c2) := by simpa using hz
        show c2 < c2 + 1
        omega
    · have e1 : QD gi w11 = D.length + 1 := by
        have hgi : w11.heap[gi]? = some (.mapIter (some gm) c ((D ++ [x]).map (·.2.2)).toArray c) := by
          obtain ⟨F, ⟨hb, rfl⟩, hk⟩ := hs12.upd
          exact hb
        unfold QD
        rw [hgi]
        simp
      have e2 : QD gi w4 = D.length := by
        have hgi : w4.heap[gi]? = some (.mapIter (some gm) c (D.map (·.2.2)).toArray c) := by
          obtain ⟨F, ⟨hb, rfl⟩, hk⟩ := hs4.upd
          exact hb
        unfold QD
        rw [hgi]
        simp
      rw [e1, e2]
      omega
end
end Go.Fx
namespace Go.Fx
section
variable {w0 w w' : World} {As : List Asn} {g : Nat} {lv : Value} {t : Tr} {N : List TN}
theorem X1 (hw : TrW t N) {a b : Vec 32} (ha : has t N a = true) : under t N a b = (decide (b ∈ BB t N a) || decide (b = t.root)) := by
  by_cases hb : has t N b = true
  · rw [Et ha hb, Bool.or_comm]
  · have hb' : has t N b = false := by simpa using hb
    have h1 : b ∉ BB t N a := fun hm => by
      obtain ⟨j, hj⟩ := List.mem_iff_getElem?.1 hm
      exact hb (Adt hw a ha j b hj).1
    have h2 : b ≠ t.root := fun he => hb (Db (.inl he))
    unfold under
    rw [hb', decide_eq_false h1, decide_eq_false h2]
    simp
theorem AgN {N : List TN} {k : Vec 32} {x : TN} (h : Bx k N = some x) : Ba k N = some x.2.1 := by unfold Ba; rw [h]; rfl
theorem Lq (hr : RfR w.heap g lv t N) (hw : TrW t N) (hn : N.length ≤ 1000000) (a b : Vec 32) (hh : hgt t N a ≤ 1000000) : cal P D6 [.pointer (some ⟨g, 0, none⟩), kv a, kv b] w fun r w' => r = .bool (under t N a b) ∧ Fr [] w w' := by
  refine O1 fun R hR => ?_
  unfold Je
  refine bxQ (Sep.start w) fun g3 w1 hs1 => ?_
  refine bxQ hs1 fun g4 w2 hs2 => ?_
  simp only [Ai (Sep.p1 hs2).blk]
  refine Af (GY (hs2.rf hr) hn a) ?_
  rintro _ w3 ⟨rfl, hf3⟩
  have hs3 := hs2.old hf3
  simp only [fx, Nat.reduceAdd, forall_const]
  rw [Aj]
  refine ⟨fun h => ?_, fun h => ?_⟩
  · have ha : has t N a = false := by simpa using h
    exact hR _ _ ⟨by unfold under; rw [ha]; rfl, hs3.fr0⟩
  have ha : has t N a = true := by simpa using h
  rw [X1 hw ha] at hR
  simp only [Ai (Sep.p1 hs3).blk]
  refine Af (VM (hs3.rf hr) hw hn a hh) ?_
  intro pv w4 hs4
  replace hs4 := hs3.join hs4
  have hpl := On hw a ha
  refine ⟨fun y z => ∃ i : Nat, y = .int .i64 i ∧ i ≤ (BB t N a).length ∧ b ∉ (BB t N a).take i ∧ Sep w z [rows (rVec 32) pv (BB t N a), blk g4 (Rdr.cells (rVec 32) b).toArray Aa, blk g3 (Rdr.cells (rVec 32) a).toArray Aa], fun y _ => ((BB t N a).length - RowKit.intOf y).toNat, ⟨0, rfl, by omega, by simp, hs4⟩, ?_⟩
  rintro _ w5 ⟨i, rfl, hi, hnm, hs5⟩ -
  simp only [(Sep.rows hs5).len, fx, Nat.reduceAdd, forall_const]
  rw [Aj]
  refine ⟨fun h => ?_, fun h => ?_⟩
  · have hlt : i < (BB t N a).length := by simp at h; omega
    obtain ⟨x, hx⟩ : ∃ x, (BB t N a)[i]? = some x := ⟨_, List.getElem?_eq_getElem hlt⟩
    refine CT hs5 fun w6 hs6 _ => ?_
    change ixs 32 _ _ _
    refine AB.ldN (q := rVec 32) (by decide) (Sep.rows hs6) hx .i64 ?_
    simp only [Ai (Sep.blk (Sep.p1 hs6)), B3]
    rw [Aj]
    refine ⟨fun h => ?_, fun h => ?_⟩
    · have h : x = b := of_decide_eq_true h
      exact hR _ _ ⟨by rw [decide_eq_true (h ▸ List.mem_of_getElem? hx)]; rfl, hs6.fr0⟩
    · have h : ¬ x = b := of_decide_eq_false h
      rw [wi64 (by omega) (by omega)]
      refine ⟨⟨i + 1, by simp, by omega, ?_, hs6⟩, by simp [RowKit.intOf]; omega⟩
      rw [List.take_add_one, hx, List.mem_append]
      rintro (hm | hm)
      · exact hnm hm
      · have hm : b = x := by simpa using hm
        exact h hm.symm
  · have hge : i = (BB t N a).length := by simp at h; omega
    rw [hge, List.take_of_length_le (Nat.le_refl _)] at hnm
    refine CT hs5 fun w6 hs6 _ => ?_
    obtain ⟨T, fr, hc⟩ := (hs6.rf hr).cell
    simp only [fx, Nat.reduceAdd, forall_const, Ai (Sep.blk (Sep.p1 hs6)), Bw hc, A3 hc, A8 hc, A2 hc, AV hc, B3]
    exact hR _ _ ⟨by rw [decide_eq_false hnm, Bool.false_or], hs6.fr0⟩
theorem MP (hr : RfR w.heap g lv t N) (hn : N.length ≤ 1000000) : cal P Ed [.pointer (some ⟨g, 0, none⟩)] w fun r w' => ∃ g' lv', r = .pointer (some ⟨g', 0, none⟩) ∧ Sep w w' (rfH g' lv' t N) := by
  refine Q0 fun R hR => ?_
  unfold JR
  refine A0 (Sep.start w) fun w1 hs1 _ => ?_
  have rd : ∀ {u : World}, Sep w u [] → ∃ T fr, u.heap[g]? = some (.cells (Rdr.cells AO (t.root, t.ht, t.most, lv)).toArray T fr) := fun hu => (hu.rf hr).cell
  simp only [fx, Nat.reduceAdd, forall_const]
  refine ⟨kv t.root, fun u hu => by obtain ⟨T, fr, hc⟩ := rd hu; exact (A3 hc _).mpr rfl, ?_⟩
  refine AF (v := .int .i64 t.ht) (fun u hu K hk => by obtain ⟨T, fr, hc⟩ := rd hu; exact (A8 hc K).mpr hk) ?_
  refine AF (v := .int .i64 t.most) (fun u hu K hk => by obtain ⟨T, fr, hc⟩ := rd hu; exact (A2 hc K).mpr hk) ?_
  refine ⟨.agg (Rdr.cells AO (t.root, t.ht, t.most, .slice none 0 0)).toArray, fun u hu => by rw [GR], ?_⟩
  refine QN (bxQ hs1 fun g' w2 hs2 => ?_)
  have hs3 := Sep.nilR (q := AI) hs2
  refine A0 hs3 fun w4 hs4 _ => ?_
  simp only [fx, Nat.reduceAdd, forall_const]
  refine AF (v := .slice none 0 0) (fun u hu K hk => (AV (Sep.blk (Sep.p1 hu)) K).mpr hk) ?_
  refine AF (v := lv) (fun u hu K hk => by obtain ⟨T, fr, hc⟩ := (hu.rf hr).cell; exact (AV hc K).mpr hk) ?_
  refine EE (BX (q := AI) Du FD (by simp) hs4 (hr.rw.fr hs4.fr0) ?_ (by simp; omega) (by simp; omega) fun v5 w5 hs5 => ?_)
  · intro u hu
    obtain ⟨y, hy, hu⟩ := List.mem_flatMap.1 hu
    obtain ⟨x, hx, rfl⟩ := List.mem_map.1 hy
    exact B2 Ca (B2 Ca (B2 oneI (oneV (hr.dat x hx).one))) u hu
  refine Dd (Fa hs5.p1 (Sep.oneR hs5) fun w6 hs6 => ?_)
  exact hR _ _ ⟨g', v5, rfl, by simpa [rfH] using hs6⟩
theorem Aec (hs : Sep w0 w (rfH g lv t N ++ As)) (hd : Dat N As) (hw : TrW t N) (hu : (N.map (·.1)).Nodup) (hn : N.length ≤ 1000000) (hh : ∀ a, has t N a = true → hgt t N a ≤ 1000000) (k : Vec 32) :
    cal P HB [.pointer (some ⟨g, 0, none⟩), kv k] w fun r w' =>
      (mvOk t N k = false ∧ r = .tuple #[.slice none 0 0, .int .i64 4] ∧ Sep w0 w' (rfH g lv t N ++ As)) ∨
      (mvOk t N k = true ∧ ∃ gv lv', r = .tuple #[gv, .int .i64 0] ∧ Sep w0 w' (rfH g lv' (mvT t N k) (mvN t N k) ++ (rows (rVec 32) gv (CB t N k) :: As))) := by
  have hr := Abn hs hd
  refine SJ fun R hR => ?_
  unfold KC
  refine bxQ (Sep.start w) fun g3 w1 hs1 => ?_
  simp only [Ai hs1.blk]
  refine Af (Gn (hs1.rf hr) hn k) ?_
  rintro _ w2 ⟨rfl, hf2⟩
  have hs2 := hs1.old hf2
  refine CT hs2 fun w3 hs3 _ => ?_
  simp only [fx, Nat.reduceAdd, forall_const]
  cases hno : Bx k N with
  | none =>
    rw [KZ hno]
    simp only [fx, Nat.reduceAdd, forall_const, show decide ((-1 : Int) < 0) = true from rfl]
    refine hR _ _ (.inl ⟨?_, rfl, hs.old hs3.fr0⟩)
    unfold mvOk Ba
    rw [hno]
    rfl
  | some x0 =>
  obtain ⟨i0, hi0, hx0, hx01⟩ := IG hno
  rw [hi0]
  have e0 : decide ((i0 : Int) < 0) = false := by simp
  have hr3 := hs3.rf hr
  obtain ⟨T, fr, hc⟩ := hr3.cell
  obtain ⟨g2, o, ha, hix⟩ := hr3.ix hx0
  simp only [fx, Nat.reduceAdd, forall_const, e0, Bw hc, A3 hc, A8 hc, A2 hc, AV hc, hix]
  refine Bu ?_
  rw [DY ha]
  simp only [C0, fx, Nat.reduceAdd, forall_const]
  have hnbk : (nb k N).1 = x0.2.1 := by unfold nb; rw [hno]; rfl
  have hmv : mvOk t N k = decide (x0.2.1.p = t.root) := by
    unfold mvOk Ba
    rw [hno, hnbk]
    simp
  rw [Aj]
  refine ⟨fun h => ?_, fun h => ?_⟩
  · have h : ¬ x0.2.1.p = t.root := of_decide_eq_false (by have h' : (!decide (x0.2.1.p = t.root)) = true := h; simpa using h')
    exact hR _ _ (.inl ⟨by rw [hmv, decide_eq_false h], rfl, hs.old hs3.fr0⟩)
  have h : x0.2.1.p = t.root := of_decide_eq_true (by have h' : (!decide (x0.2.1.p = t.root)) = false := h; simpa using h')
  have hok : mvOk t N k = true := by rw [hmv, decide_eq_true h]
  have hkm : k ∈ nms N := by rw [← hx01]; exact List.mem_map_of_mem (List.mem_of_getElem? hx0)
  have hkh : has t N k = true := Db (.inr hkm)
  have hkr : k ≠ t.root := DX hw (AgN hno)
  have hkk : under t N k k = true := by
    rw [X1 hw hkh, E0 hw hkh hkr]
    simp
  have goneE : ∀ (x : TN), x ∈ N → (x.1 = k → under t N x.1 k = true) := fun x hx he => by rw [he]; exact hkk
  refine ⟨fun x y z u => ∃ i : Nat, z = .int .i64 i ∧ i ≤ N.length ∧ Sep w u [rows (rVec 32) x (nms ((N.take i).filter fun x => !under t N x.1 k)), rows AI y (((N.take i).filter fun x => !decide (x.1 = k) && under t N x.1 k).map TN.nd), blk g3 (Rdr.cells (rVec 32) k).toArray Aa],
    fun _ _ z _ => (N.length - RowKit.intOf z).toNat, ⟨0, rfl, by omega, Sep.nilR (Sep.nilR hs3)⟩, ?_⟩
  rintro x y _ w4 ⟨i, rfl, hi, hs4⟩ -
  have hr4 := hs4.rf hr
  obtain ⟨T, fr, hc⟩ := hr4.cell
  simp only [fx, Nat.reduceAdd, forall_const, Bw hc, A3 hc, A8 hc, A2 hc, AV hc, hr4.len]
  rw [Aj]
  refine ⟨fun h => ?_, fun h => ?_⟩
  · have hlt : i < N.length := by simp at h; omega
    obtain ⟨x1, hx⟩ : ∃ x, N[i]? = some x := ⟨_, List.getElem?_eq_getElem hlt⟩
    have hxm := List.mem_of_getElem? hx
    have hxh : has t N x1.1 = true := Db (.inr (List.mem_map_of_mem hxm))
    have htk : N.take (i + 1) = N.take i ++ [x1] := by rw [List.take_add_one, hx]; rfl
    have hii : (i = i0) ↔ x1.1 = k := by
      constructor
      · intro he
        rw [he, hx0] at hx
        simp only [Option.some.injEq] at hx
        rw [← hx, hx01]
      · intro he
        have h1 : (nms N)[i]? = some k := by rw [List.getElem?_map, hx]; simp [he]
        have h2 : (nms N)[i0]? = some k := by rw [List.getElem?_map, hx0]; simp [hx01]
        have hi0l := (List.getElem?_eq_some_iff.1 hx0).1
        exact (List.getElem?_inj (by simpa using hlt) hu).1 (h1.trans h2.symm)
    have htl1 : (nms ((N.take i).filter fun x => !under t N x.1 k)).length ≤ 1000000 := by
      rw [List.length_map]
      exact Nat.le_trans (List.length_filter_le _ _) (Nat.le_trans (List.length_take_le _ _) (by omega))
    have htl2 : (((N.take i).filter fun x => !decide (x.1 = k) && under t N x.1 k).map TN.nd).length ≤ 1000000 := by
      rw [List.length_map]
      exact Nat.le_trans (List.length_filter_le _ _) (Nat.le_trans (List.length_take_le _ _) (by omega))
    refine ⟨fun x y u => Sep w u [rows (rVec 32) x (nms ((N.take (i + 1)).filter fun x => !under t N x.1 k)), rows AI y (((N.take (i + 1)).filter fun x => !decide (x.1 = k) && under t N x.1 k).map TN.nd), blk g3 (Rdr.cells (rVec 32) k).toArray Aa], ?_, ?_⟩
    case refine_2 =>
      rintro x' y' z hz _
      rw [wi64 (by omega) (by omega)]
      exact ⟨⟨i + 1, by simp, by omega, hz⟩, by simp [RowKit.intOf]; omega⟩
    simp only [htk, List.filter_append]
    rw [Aj]
    refine ⟨fun he => ?_, fun he => ?_⟩
    · have he : x1.1 = k := hii.1 (by have := eq_of_beq he; omega)
      have f1 : [x1].filter (fun x => !under t N x.1 k) = [] := by
        rw [List.filter_cons_of_neg (by rw [he, hkk]; simp)]; rfl
      have f2 : [x1].filter (fun x => !decide (x.1 = k) && under t N x.1 k) = [] := by
        rw [List.filter_cons_of_neg (by simp [he])]; rfl
      rw [f1, f2, List.append_nil, List.append_nil]
      exact hs4
    have he : ¬ x1.1 = k := fun hc => by
      have := hii.2 hc
      rw [this] at he
      simp at he
    refine A0 hs4 fun w5 hs5 _ => ?_
    refine AF (v := lv) (fun u hu K hk => by obtain ⟨T, fr, hc⟩ := (hu.rf hr).cell; exact (AV hc K).mpr hk) ?_
    obtain ⟨g2, o, ha, hix⟩ := (hs5.rf hr).ix hx
    rw [hix, Lz]
    refine ⟨kv x1.1, fun u hu => ?_, ?_⟩
    · obtain ⟨g2', o', ha', hix'⟩ := (hu.rf hr).ix hx
      have h1 := hix .i64 (fun p => p = .pointer (some ⟨g2, o, none⟩))
      have h2 := hix' .i64 (fun p => p = .pointer (some ⟨g2, o, none⟩))
      have h3 : (Value.pointer (some ⟨g2', o', none⟩) = Value.pointer (some ⟨g2, o, none⟩)) := by rw [← h2, h1]
      simp only [Value.pointer.injEq, Option.some.injEq, Addr.mk.injEq, and_true] at h3
      obtain ⟨rfl, rfl⟩ := h3
      exact (C6 ha' _).mpr rfl
    refine ⟨kv k, fun u hu => (Ai (Sep.blk (Sep.p2 hu)) _).mpr rfl, ?_⟩
    refine Cl (Af (Lq (hs5.rf hr) hw hn x1.1 k (hh _ hxh)) ?_)
    rintro _ w6 ⟨rfl, hf6⟩
    have hs6 := hs5.old hf6
    refine ⟨fun u => Sep w u _, hs6, ?_⟩
    have hr6 := hs6.rf hr
    obtain ⟨T, fr, hc⟩ := hr6.cell
    obtain ⟨g2, o, ha, hix⟩ := hr6.ix hx
    rw [Aj]
    refine ⟨fun hun => ?_, fun hun => ?_⟩
    · simp only [fx, Nat.reduceAdd, forall_const, Bw hc, A3 hc, A8 hc, A2 hc, AV hc, hix]
      rw [Pg ha]
      have hxd := (hr.dat x1 hxm).one
      refine CQ (q := AI) hs6 Du (l := [x1.nd]) (V := fun a => .agg (Rdr.cells AI a).toArray) (fun a => rfl) rfl rfl (by decide) (by decide) fun g7 w13 hs13 => ?_
      refine BX (q := AI) Du FD (by simp) hs13.p2 (Sep.rows hs13) ?_ (by simp at htl2 ⊢; omega) (by simp at htl2 ⊢; omega) fun v14 w14 hs14 => ?_
      · simp only [List.flatMap_cons, List.flatMap_nil, List.append_nil]
        exact B2 Ca (B2 Ca (B2 oneI (oneV hxd)))
      have f1 : [x1].filter (fun x => !under t N x.1 k) = [] := by
        rw [List.filter_cons_of_neg (by rw [hun]; simp)]; rfl
      have f2 : [x1].filter (fun x => !decide (x.1 = k) && under t N x.1 k) = [x1] := by
        rw [List.filter_cons_of_pos (by simp [he, hun])]; rfl
      rw [f1, f2, List.append_nil, List.map_append]
      exact Sep.pick hs14 [2, 0, 3] 4
    · simp only [fx, Nat.reduceAdd, forall_const, Bw hc, A3 hc, A8 hc, A2 hc, AV hc, hix]
      rw [C6 ha]
      refine bldI hs6 fun a z hz => ?_
      refine appI hz.p1 (Sep.rows hz) htl1 fun x' z' hz' => ?_
      have f1 : [x1].filter (fun x => !under t N x.1 k) = [x1] := by
        rw [List.filter_cons_of_pos (by rw [hun]; rfl)]; rfl
      have f2 : [x1].filter (fun x => !decide (x.1 = k) && under t N x.1 k) = [] := by
        rw [List.filter_cons_of_neg (by simp [hun])]; rfl
      rw [f1, f2, List.append_nil, show nms ((N.take i).filter (fun x => !under t N x.1 k) ++ [x1]) = nms ((N.take i).filter fun x => !under t N x.1 k) ++ [x1.1] from List.map_append]
      exact Sep.pick hz' [0, 2, 3] 4
  · have hge : i = N.length := by simp at h; omega
    rw [hge, List.take_of_length_le (Nat.le_refl _)] at hs4
    have hsA := hs.join hs4
    have hs5 := Sep.pick hsA [3, 4, 0, 1, 2] 5
    refine A0 hs5 fun w6 hs6 _ => ?_
    refine ⟨kv k, fun u hu => (Ai (Sep.blk (Sep.p4 hu)) _).mpr rfl, ?_⟩
    refine AF (v := lv) (fun u hu K hk => (AV (Sep.blk hu) K).mpr hk) ?_
    have hixr : ∀ {u : World}, Sep w0 u (blk g (Rdr.cells AO (t.root, t.ht, t.most, lv)).toArray BZ :: rows AI lv (N.map TN.nd) :: rows (rVec 32) x (nms (N.filter fun x => !under t N x.1 k)) :: rows AI y ((N.filter fun x => !decide (x.1 = k) && under t N x.1 k).map TN.nd) :: blk g3 (Rdr.cells (rVec 32) k).toArray Aa :: As) → ∃ g2 o, At u.heap g2 o (Rdr.cells AI x0.nd) ∧ ∀ (k : IntKind) (K : Value → Prop), ixs 66 lv (.int k (i0 : Int)) K = K (.pointer (some ⟨g2, o, none⟩)) := fun hz =>
      AB.ix (q := AI) (by decide) (Sep.rows (Sep.tail hz)) (by rw [List.getElem?_map, hx0]; rfl)
    obtain ⟨g2, o, ha, hix⟩ := hixr hs6
    rw [hix]
    simp only [fx, Nat.reduceAdd, forall_const, Nat.add_assoc]
    refine AF (v := .int .i64 x0.2.1.h) (fun u hu K hk => ?_) ?_
    · obtain ⟨g2', o', ha', hix'⟩ := hixr hu
      have h1 := hix .i64 (fun p => p = .pointer (some ⟨g2, o, none⟩))
      have h2 := hix' .i64 (fun p => p = .pointer (some ⟨g2, o, none⟩))
      have h3 : (Value.pointer (some ⟨g2', o', none⟩) = Value.pointer (some ⟨g2, o, none⟩)) := by rw [← h2, h1]
      simp only [Value.pointer.injEq, Option.some.injEq, Addr.mk.injEq, and_true] at h3
      obtain ⟨rfl, rfl⟩ := h3
      exact (Fi ha' _).mpr hk
    refine A9 (MG hs6 Ca fun w7 hs7 => ?_)
    refine Dd (Nd hs7 fun w8 hs8 => ?_)
    refine Dd (Fa hs8 (Sep.oneR (Sep.p3 hs8)) fun w9 hs9 => ?_)
    refine hR _ _ (.inr ⟨hok, x, y, rfl, ?_⟩)
    have e1 : nms (N.filter fun x => !under t N x.1 k) = CB t N k := by
      unfold CB nms
      rw [List.filter_map]
      rfl
    have e2 : (nb k N).1.h = x0.2.1.h := by rw [hnbk]
    have := Sep.pick hs9 [0, 3, 2] 5
    unfold rfH mvT
    rw [e2, ← e1]
    exact this
end
end Go.Fx
namespace Go.Fx
theorem WY (l : List UInt8) (h : l.length ≤ 55) : shaL l = mixM G0 (padT l l.length) := by
  have hl : (padT l l.length).length = 64 := by
    unfold padT
    simp only [List.length_append, List.length_replicate, List.length_singleton, Cg]
    unfold zer
    omega
  unfold shaL
  rw [FV (by omega), GL (by simp; omega), List.take_of_length_le (by omega)]
section
variable {w0 w : World} {As : List Asn}
theorem AB.sub {α : Type} {q : Rdr α} {h : Heap} {a : Option Addr} {n c i j : Nat} {l : List α} (hr : AB q h (.slice a n c) l) (hi : i ≤ j) (hj : j ≤ l.length) (hc : l.length ≤ c) (c' : Nat) : AB q h (.slice (if c = i then a else a.map (·.add (i * q.size))) (j - i) c') ((l.drop i).take (j - i)) := by
  have h1 := AB.drop hr (k := i) (by omega) hc (c - i)
  exact AB.take h1 (k := j - i) (by simp; omega) c'
end
end Go.Fx
namespace Go.Fx
def RK (h : Heap) (N : List TN) (H : List (Ent 32)) : Prop := H.map (·.1) = nms N ∧ ∀ k b, Ba k N = some b → ∃ v, getE k H = some (bq b v) ∧ RdB h v b.d
theorem RK.add {h : Heap} {t : Tr} {N : List TN} {H : List (Ent 32)} {b : Blk} {v vd : Value} {c c' : Nat} (hk : RK h N H) (hn : has t N b.id = false) (hv : RdB h v b.d) : RK h (N ++ [(b.id, b, vd, c)]) (H ++ [(b.id, bq b v, c')]) := by
  have hnm : b.id ∉ nms N := fun hm => by rw [Db (.inr hm)] at hn; cases hn
  refine ⟨by simp [hk.1], fun k b' hb => ?_⟩
  rw [Hr] at hb
  cases hk2 : Ba k N with
  | some y =>
    rw [hk2] at hb
    simp only [Option.some_or, Option.some.injEq] at hb
    subst hb
    obtain ⟨v', h1, h2⟩ := hk.2 k y hk2
    exact ⟨v', by rw [My, h1]; rfl, h2⟩
  | none =>
    rw [hk2] at hb
    by_cases he : k = b.id
    · subst he
      have : b = b' := by simpa using hb
      subst this
      exact ⟨v, by rw [My, AaF (by rw [hk.1]; exact hnm)]; simp, hv⟩
    · simp [he] at hb
theorem RK.fr {w w' : World} {N : List TN} {H : List (Ent 32)} (h : RK w.heap N H) (hf : Fr [] w w') : RK w'.heap N H := ⟨h.1, fun k b hb => by
  obtain ⟨v, h1, h2⟩ := h.2 k b hb
  exact ⟨v, h1, h2.fr hf (D8 _)⟩⟩
section
variable {w : World}
end
end Go.Fx
namespace Go.Fx
def argD (xs : List (Vec 32)) (i : Nat) (_ : World) (args : List Value) : Prop := ∃ x, xs[i]? = some x ∧ args = [kv x]
section
variable {w0 w : World} {As : List Asn} {g gm c : Nat} {ov : Value} {t : Tr} {N : List TN}
theorem UW {v : Value} {xs : List (Vec 32)} {g1 : Nat} (hl : xs.length ≤ 1000000) : Iter P (.func (.func Gf) #[] #[.pointer (some ⟨g1, 0, none⟩)])
    (fun h => (∃ T fr, h[g1]? = some (.cells #[v] T fr)) ∧ AB (rVec 32) h v xs) xs.length (argD xs) := by
  refine ⟨_, _, rfl, by kernel_rfl, fun y w0 w J X As h1 h0 hs hM hst => ?_⟩
  show cal P Gf [y, .pointer (some ⟨g1, 0, none⟩)] w _
  refine Zi fun R hR => ?_
  unfold OS
  obtain ⟨⟨T, fr, hc⟩, hv⟩ := hM 0 As [] w h0 (by rwa [List.append_nil])
  refine Co (v := v) hc rfl ?_
  rw [hv.len]
  refine ⟨fun t z => ∃ (i : Nat) (Bs : List Asn), t = .int .i64 i ∧ i ≤ xs.length ∧ J i Bs ∧ Sep w0 z Bs, fun t _ => (xs.length - RowKit.intOf t).toNat, ⟨0, As, rfl, by omega, h0, hs⟩, ?_⟩
  rintro _ z ⟨i, Bs, rfl, hi, hJ, hz⟩ -
  simp only [fx, Nat.reduceAdd, forall_const]
  rw [Aj]
  refine ⟨fun h => ?_, fun h => ?_⟩
  · have hlt : i < xs.length := by simp at h; omega
    obtain ⟨x, hx⟩ : ∃ x, xs[i]? = some x := ⟨_, List.getElem?_eq_getElem hlt⟩
    have hv' := (hM i Bs [] z hJ (by rwa [List.append_nil])).2
    change ixs 32 _ _ _
    refine AB.ldN (q := rVec 32) (by decide) hv' hx .i64 ?_
    refine Av hz (AS z) fun g4 z2 hz2 => ?_
    refine AE (b := x) hz2 fun z3 hz3 => ?_
    simp only [Ai hz3.blk]
    refine AiF (hst i [kv x] z3 Bs [_] hlt ⟨x, hx, rfl⟩ hJ (Sep.rot (As := [_]) hz3)) ?_
    rintro r z' (⟨rfl, Cs, hJ', hz'⟩ | ⟨rfl, Cs, hX', hz'⟩)
    · simp only [fx, Nat.reduceAdd, forall_const]
      rw [wi64 (by omega) (by omega)]
      exact ⟨⟨i + 1, Cs, by simp, by omega, hJ', hz'.dropR⟩, by simp [RowKit.intOf]; omega⟩
    · simp only [fx, Nat.reduceAdd, forall_const]
      exact hR _ _ ⟨rfl, .inr ⟨Cs, hX', hz'.dropR⟩⟩
  · have hge : i = xs.length := by simp at h; omega
    subst hge
    exact hR _ _ ⟨rfl, .inl ⟨Bs, hJ, hz⟩⟩
def Goes (w0 w : World) (r : Value) (xs : List (Vec 32)) : Prop := ∃ g1 v, r = .func (.func Gf) #[] #[.pointer (some ⟨g1, 0, none⟩)] ∧ Sep w0 w [blk g1 #[v] Ax, rows (rVec 32) v xs]
theorem U3 {v : Value} {xs : List (Vec 32)} (hs : Sep w0 w [rows (rVec 32) v xs]) : cal P Jz [v] w fun r w' => Goes w0 w' r xs := by
  refine Acj fun R hR => ?_
  unfold TB
  refine bx_s hs fun g1 w1 hs1 => ?_
  have hv := Sep.oneR hs
  have ev : v.cells = #[v] := by cases v <;> simp_all [Value.cells, Value.oneCell']
  rw [ev] at hs1
  exact hR _ _ ⟨g1, v, rfl, hs1⟩
theorem T3 : ∀ {N : List TN} (_ : (nms N).Nodup) {x : TN} (_ : x ∈ N), Bx x.1 N = some x
  | [], _, x, hx => by cases hx
  | y :: N, hu, x, hx => by
    have h1 : y.1 ∉ nms N ∧ (nms N).Nodup := List.nodup_cons.1 hu
    unfold Bx
    rw [List.find?_cons]
    rcases List.mem_cons.1 hx with rfl | hx
    · simp
    · have hne : ¬ x.1 = y.1 := fun he => h1.1 (he ▸ List.mem_map.2 ⟨x, hx, rfl⟩)
      rw [decide_eq_false hne]
      exact T3 h1.2 hx
theorem XJ (hu : (nms N).Nodup) (k : Vec 32) : (nms N).filter (fun x => decide (upOf x N = k)) = nms (N.filter fun x => decide (x.2.1.p = k)) := by
  have h : ∀ x ∈ N, upOf x.1 N = x.2.1.p := fun x hx => by
    unfold upOf nb
    rw [T3 hu hx]
    rfl
  show (N.map (·.1)).filter _ = (N.filter _).map (·.1)
  rw [List.filter_map]
  congr 1
  refine List.filter_congr fun x hx => ?_
  show decide (upOf x.1 N = k) = _
  rw [h x hx]
theorem XX (hr : TrR w.heap g gm ov t N c) (hn : N.length ≤ 1000000) (hu : (nms N).Nodup) (k : Vec 32) : cal P FX [.pointer (some ⟨g, 0, none⟩), kv k] w fun r w' => Goes w w' r (if has t N k = true then nms (N.filter fun x => decide (x.2.1.p = k)) else []) := by
  refine T0 fun R hR => ?_
  unfold LV
  refine bx_s (Sep.start w) fun g2 w1 hs1 => ?_
  replace hs1 : Sep w w1 [blk g2 #[.pointer (some ⟨g, 0, none⟩)] DU] := hs1
  refine bxQ hs1 fun g3 w2 hs2 => ?_
  refine Co (Sep.p1 hs2).blk rfl ?_
  simp only [Ai hs2.blk]
  refine Af (GI (hs2.tr hr) k) ?_
  rintro _ w3 ⟨rfl, hf3⟩
  have hs3 := hs2.old hf3
  simp only [fx, Nat.reduceAdd, forall_const]
  cases hk : has t N k with
  | false =>
    simp only [fx, Nat.reduceAdd, forall_const]
    have hs4 : Sep w w3 [rows (rVec 32) (.slice none 0 0) []] := Sep.dropR (As := [_]) hs3.nilR
    refine Af (U3 hs4) ?_
    rintro r' w4 hg
    exact hR _ _ (by rw [if_neg (by rw [hk]; simp)]; exact hg)
  | true =>
    simp only [fx, Nat.reduceAdd, forall_const]
    refine Co (Sep.p1 hs3).blk rfl ?_
    refine Af (NS (f := GQ) (cap := [.pointer (some ⟨g2, 0, none⟩), .pointer (some ⟨g3, 0, none⟩)]) (so := fun x => decide (upOf x N = k)) (hs3.tr hr) hn (by kernel_rfl) ?_) ?_
    · intro z x hz
      have hsz := hs3.old hz
      refine Rp fun R hR => ?_
      unfold JU
      have hs0 : Sep z z [] := Sep.start z
      refine bxQ hs0 fun g5 w5 hs5 => ?_
      refine CT hs5 fun w6 hs6 _ => ?_
      have h2 := hs6.fr0.blk (Sep.p1 hsz).blk (by simp)
      have h3 := hs6.fr0.blk hsz.blk (by simp)
      refine Co (v := .pointer (some ⟨g, 0, none⟩)) h2 rfl ?_
      have hr6 := TrR.fr (hsz.tr hr) hs6.fr0
      obtain ⟨T, fr, hc⟩ := hr6.cell
      simp only [fx, Nat.reduceAdd, forall_const, DC hc, Ci hc, BU hc, BM hc, B6 hc, A7 hc, BR hc, Ai hs6.blk]
      rw [hr6.look1, Nz]
      change fldv _ _ _ _ _
      rw [ZF]
      simp only [Ai h3, B3]
      exact hR _ _ ⟨rfl, hs6.fr0⟩
    · rintro r w4 hs4
      rw [XJ hu] at hs4
      have hs5 : Sep w w4 [rows (rVec 32) r (nms (N.filter fun x => decide (x.2.1.p = k)))] := Sep.dropR (As := [_]) (hs3.join hs4)
      refine Af (U3 hs5) ?_
      rintro r' w5 hg
      exact hR _ _ (by rw [if_pos hk]; exact hg)
end
end Go.Fx
namespace Go.Fx
def TN.kb (x : TN) : Vec 32 × Blk := (x.1, x.2.1)
abbrev kbs (N : List TN) : List (Vec 32 × Blk) := N.map TN.kb
section
variable {N M : List TN} {t : Tr}
theorem I3 : ∀ {N M : List TN} (_ : kbs N = kbs M) (k : Vec 32), Ba k N = Ba k M
  | [], [], _, k => rfl
  | [], y :: M, h, k => by simp at h
  | x :: N, [], h, k => by simp at h
  | x :: N, y :: M, h, k => by
    have h1 : x.kb = y.kb ∧ kbs N = kbs M := List.cons.inj h
    have h2 : x.1 = y.1 := by show x.kb.1 = y.kb.1; rw [h1.1]
    have h3 : x.2.1 = y.2.1 := by show x.kb.2 = y.kb.2; rw [h1.1]
    have ih := I3 h1.2 k
    unfold Ba Bx at ih ⊢
    rw [List.find?_cons, List.find?_cons, h2]
    by_cases hk : k = y.1
    · simp [hk, h3]
    · simpa [hk] using ih
theorem Aho (k : Vec 32) (N : List TN) : (nb k N).1 = (Ba k N).getD Blk.none := by
  unfold nb Ba
  cases Bx k N <;> rfl
theorem ZA (h : kbs N = kbs M) (k : Vec 32) : (nb k N).1 = (nb k M).1 := by rw [Aho, Aho, I3 h]
theorem D3 (h : kbs N = kbs M) (k : Vec 32) : has t N k = has t M k := by unfold has; rw [I3 h]
theorem ZV (h : kbs N = kbs M) (k : Vec 32) : levH t N k = levH t M k := by unfold levH; rw [I3 h]
theorem Abj (h : kbs N = kbs M) (k : Vec 32) : hgt t N k = hgt t M k := by unfold hgt; rw [ZV h]
theorem AiP (h : kbs N = kbs M) (k : Vec 32) : upOf k N = upOf k M := by unfold upOf; rw [ZA h]
theorem ZK (h : kbs N = kbs M) : ∀ (n : Nat) (k : Vec 32), Fk t N n k = Fk t M n k
  | 0, k => rfl
  | n + 1, k => by unfold Fk; rw [AiP h, ZK h n]
theorem Aic (h : kbs N = kbs M) (k : Vec 32) : BB t N k = BB t M k := by unfold BB; rw [D3 h, Abj h, ZK h]
theorem Ov (h : kbs N = kbs M) (a b : Vec 32) : under t N a b = under t M a b := by unfold under; rw [D3 h, D3 h, Abj h, ZK h]
theorem AaJ (h : kbs N = kbs M) : nms N = nms M := by
  have h1 := congrArg (List.map Prod.fst) h
  rw [List.map_map, List.map_map] at h1
  exact h1
theorem Gd (h : kbs N = kbs M) : N.length = M.length := by
  have h1 := congrArg List.length h
  simpa using h1
theorem AfX (p : Vec 32 × Blk → Bool) (h : kbs N = kbs M) : kbs (N.filter fun x => p x.kb) = kbs (M.filter fun x => p x.kb) := by
  have e : ∀ N : List TN, kbs (N.filter fun x => p x.kb) = (kbs N).filter p := fun N => by rw [kbs, List.filter_map]; rfl
  rw [e, e, h]
theorem Ah5 (h : kbs N = kbs M) (k : Vec 32) : nms (N.filter fun x => decide (x.2.1.p = k)) = nms (M.filter fun x => decide (x.2.1.p = k)) := AaJ (AfX (fun y => decide (y.2.p = k)) h)
theorem NZ {m : Nat} (hi : TM t N m) (k : Vec 32) : hgt t N k ≤ m := by
  cases hk : has t N k with
  | true => exact hi.hb k hk
  | false =>
    have h1 : ¬ k = t.root ∧ (Ba k N).isSome = false := by
      unfold has at hk
      simpa using hk
    have h2 : Ba k N = none := by simpa using h1.2
    have := hi.ht
    unfold hgt levH
    rw [if_neg h1.1, h2]
    simp only
    omega
theorem TM.kb {m : Nat} (hi : TM t N m) (h : kbs N = kbs M) : TM t M m := by
  have hn := AaJ h
  refine ⟨⟨fun k b hb => ?_, fun k b hb => ?_, ?_, fun x hx => ?_⟩, ?_, fun k hk => ?_, fun x hx => ?_, hi.ht⟩
  · rw [← I3 h] at hb
    rw [← D3 h, ← ZV h]
    exact hi.w.up k b hb
  · rw [← I3 h] at hb
    exact hi.w.above k b hb
  · rw [← I3 h]; exact hi.w.noroot
  · have : x.kb ∈ kbs N := by rw [h]; exact List.mem_map.2 ⟨x, hx, rfl⟩
    obtain ⟨y, hy, he⟩ := List.mem_map.1 this
    have := hi.w.small y hy
    rw [show y.2.1 = x.2.1 from congrArg Prod.snd he] at this
    exact this
  · show (nms M).Nodup
    rw [← hn]; exact hi.nd
  · rw [← Abj h]; exact hi.hb k (by rw [D3 h]; exact hk)
  · have : x.kb ∈ kbs N := by rw [h]; exact List.mem_map.2 ⟨x, hx, rfl⟩
    obtain ⟨y, hy, he⟩ := List.mem_map.1 this
    have := hi.hi y hy
    rw [show y.2.1 = x.2.1 from congrArg Prod.snd he] at this
    exact this
end
section
variable {w0 w w' : World} {As : List Asn} {gx g gm gr c : Nat} {ov lv x : Value} {t : Tr} {N M : List TN} {ids : List (Vec 32)}
theorem Goes.fr0 {r : Value} {xs : List (Vec 32)} (h : Goes w0 w r xs) : Fr [] w0 w := by
  obtain ⟨_, _, _, hs⟩ := h
  exact hs.fr0
end
end Go.Fx
namespace Go.Fx
abbrev Id := Vec 32
abbrev Par := Int × Int × Int × Int
abbrev Cho := Id × Int
structure Sn where
  l : List Cho
  pref : Id
  flake : Id
  conf : Int
  dn : Bool
abbrev snr (v : Value) (x : Sn) : Value × Id × Id × Int × Bool := (v, x.pref, x.flake, x.conf, x.dn)
abbrev snv (v : Value) (x : Sn) : Value := .agg (Rdr.cells Aq (snr v x)).toArray
abbrev idv (i : Id) : Value := .agg (Rdr.cells (rVec 32) i).toArray
abbrev pav (p : Par) : Value := .agg (Rdr.cells AK p).toArray
def parE (p : Par) : Int := if p.1 < 1 ∨ 64 < p.1 ∨ p.2.1 ≤ p.1 / 2 ∨ p.2.2.1 < p.2.1 ∨ p.1 < p.2.2.1 ∨ p.2.2.2 < 1 ∨ 1000 < p.2.2.2 then 170 else 0
def PaOk (p : Par) : Prop := -9223372036854775808 ≤ p.1 ∧ p.1 ≤ 9223372036854775807 ∧ -9223372036854775808 ≤ p.2.1 ∧ p.2.1 ≤ 9223372036854775807
theorem half {k : Int} (h : 0 ≤ k) : IntKind.i64.wrap (k.tdiv 2) = k / 2 ∨ 9223372036854775807 < k := by
  rcases Int.lt_or_le 9223372036854775807 k with h1 | h1
  · exact .inr h1
  · left
    rw [Int.tdiv_eq_ediv_of_nonneg h, wi64 (by omega) (by omega)]
theorem Kd {w : World} {p : Par} : cal P Gi [pav p] w fun v w' => v = .int .i64 (parE p) ∧ Fr [] w w' := by
  refine Yo fun R hR => ?_
  unfold OI
  refine bx_s (Sep.start w) fun g w1 hs => ?_
  simp only [Value.cells] at hs
  have hg := hs.blk
  obtain ⟨k, ap, ac, be⟩ := p
  simp only [fx, Nat.reduceAdd, forall_const, Bi hg, AW hg, AG hg, AH hg, AQ hg, Abo .i64 k 2 _ (by decide)]
  have hfin : ∀ b : Bool, b = decide (k < 1 ∨ 64 < k ∨ ap ≤ k / 2 ∨ ac < ap ∨ k < ac ∨ be < 1 ∨ 1000 < be) → cnd (.bool b) (R (.int .i64 170) w1) (R (.int .i64 0) w1) := fun b hb => by
    rw [Aj]
    refine ⟨fun h => ?_, fun h => ?_⟩
    · rw [hb] at h; exact hR _ _ ⟨by rw [parE, if_pos (by simpa using h)], hs.fr0⟩
    · rw [hb] at h; exact hR _ _ ⟨by rw [parE, if_neg (by simpa using h)], hs.fr0⟩
  refine hfin _ ?_
  by_cases h1 : k < 1
  · simp [h1]
  by_cases h2 : 64 < k
  · simp [h2]
  rcases half (k := k) (by omega) with e | e
  · rw [e]
    simp [Bool.or_assoc]
  · omega
theorem Kn {w : World} {p : Par} (hp : PaOk p) : cal P FE [pav p] w fun v w' => v = .int .i64 (parE p) ∧ Fr [] w w' := by
  refine Xi fun R hR => ?_
  unfold NH
  refine bx_s (Sep.start w) fun g w1 hs => ?_
  simp only [Value.cells] at hs
  have hg := hs.blk
  obtain ⟨k, ap, ac, be⟩ := p
  obtain ⟨a1, a2, a3, a4⟩ := hp
  simp only at a1 a2 a3 a4
  simp only [fx, Nat.reduceAdd, forall_const, Bi hg, AW hg, AG hg, AH hg, AQ hg]
  have hfin : ∀ b : Bool, b = decide (k < 1 ∨ 64 < k ∨ ap ≤ k / 2 ∨ ac < ap ∨ k < ac ∨ be < 1 ∨ 1000 < be) → cnd (.bool b) (R (.int .i64 170) w1) (R (.int .i64 0) w1) := fun b hb => by
    rw [Aj]
    refine ⟨fun h => ?_, fun h => ?_⟩
    · rw [hb] at h; exact hR _ _ ⟨by rw [parE, if_pos (by simpa using h)], hs.fr0⟩
    · rw [hb] at h; exact hR _ _ ⟨by rw [parE, if_neg (by simpa using h)], hs.fr0⟩
  refine hfin _ ?_
  by_cases h1 : k < 1
  · simp [h1]
  by_cases h2 : 64 < k
  · simp [h2]
  by_cases h3 : ap < 1
  · have : ap ≤ k / 2 := by omega
    simp [h3, this]
  rw [wi64 (by omega) (by omega)]
  have e : ap ≤ k - ap ↔ ap ≤ k / 2 := by omega
  rw [Bool.eq_iff_iff]
  simp only [Bool.or_eq_true, decide_eq_true_eq, e]
  omega
def plc (l : List Cho) (id : Id) : Int := match l.findIdx? (fun c => decide (c.1 = id)) with
  | some i => i
  | none => -1
theorem LO {l : List Cho} {id : Id} {i : Nat} {c : Cho} (hi : l[i]? = some c) (hc : c.1 = id) (hb : ∀ (j : Nat) (d : Cho), j < i → l[j]? = some d → d.1 ≠ id) : plc l id = i := by
  have : l.findIdx? (fun c => decide (c.1 = id)) = some i := by
    rw [List.findIdx?_eq_some_iff_getElem]
    have hlt := (List.getElem?_eq_some_iff.1 hi).1
    refine ⟨hlt, ?_, fun j hj => ?_⟩
    · rw [List.getElem?_eq_getElem hlt] at hi
      simp only [Option.some.injEq] at hi
      rw [hi]
      simpa using hc
    · have := hb j _ hj (List.getElem?_eq_getElem (by omega))
      simpa using this
  rw [plc, this]
theorem Un {l : List Cho} {id : Id} (hb : ∀ (j : Nat) (d : Cho), l[j]? = some d → d.1 ≠ id) : plc l id = -1 := by
  have : l.findIdx? (fun c => decide (c.1 = id)) = none := by
    rw [List.findIdx?_eq_none_iff]
    intro c hc
    obtain ⟨j, hj⟩ := List.mem_iff_getElem?.1 hc
    simpa using hb j c hj
  rw [plc, this]
theorem Ex (l : List Cho) (id : Id) : (plc l id = -1 ∧ ∀ (j : Nat) (d : Cho), l[j]? = some d → d.1 ≠ id) ∨
    ∃ i c, plc l id = ((i : Nat) : Int) ∧ l[i]? = some c ∧ c.1 = id ∧ ∀ (j : Nat) (d : Cho), j < i → l[j]? = some d → d.1 ≠ id := by
  unfold plc
  cases h : l.findIdx? (fun c => decide (c.1 = id)) with
  | none =>
    rw [List.findIdx?_eq_none_iff] at h
    exact .inl ⟨rfl, fun j d hj => by simpa using h d (List.mem_of_getElem? hj)⟩
  | some i =>
    rw [List.findIdx?_eq_some_iff_getElem] at h
    obtain ⟨hlt, h1, h2⟩ := h
    exact .inr ⟨i, l[i], rfl, List.getElem?_eq_getElem hlt, by simpa using h1, fun j d hj hd => by
      rw [List.getElem?_eq_getElem (by omega)] at hd
      simp only [Option.some.injEq] at hd
      rw [← hd]
      simpa using h2 j hj⟩
section
variable {w : World} {v : Value} {x : Sn} {id : Id}
theorem Fu (hr : AB Ab w.heap v x.l) (hl : x.l.length ≤ 9223372036854775807) : cal P Eh [snv v x, idv id] w fun r w' => r = .int .i64 (plc x.l id) ∧ Fr [] w w' := by
  refine AbE fun R hR => ?_
  unfold Qj
  refine bx_s (Sep.start w) fun g w1 hs => ?_
  refine bx_s hs fun g2 w2 hs => ?_
  simp only [Value.cells] at hs
  simp only [fx, Nat.reduceAdd, forall_const, Ar hs.p1.blk, Ad hs.p1.blk, Ae hs.p1.blk, Ac hs.p1.blk, Ag hs.p1.blk, Ah hs.p1.blk]
  refine Af (K' := fun r w' => r = .int .i64 (plc x.l id) ∧ Fr [] w w') ?_ fun r w' h => hR _ _ h
  refine FO fun R hR => ?_
  unfold DH
  simp only [(hr.fr hs.fr0).len]
  refine ⟨fun y w' => ∃ i : Nat, i ≤ x.l.length ∧ y = .int .i64 i ∧ (∀ (j : Nat) (d : Cho), j < i → x.l[j]? = some d → d.1 ≠ id) ∧ Sep w w' [blk g2 (Rdr.cells (rVec 32) id).toArray Aa], fun y _ => (x.l.length - RowKit.intOf y).toNat,
    ⟨0, by omega, rfl, by simp, hs.d1⟩, ?_⟩
  rintro _ w3 ⟨i, hi, rfl, hno, hs3⟩ -
  simp only [fx, Nat.reduceAdd, forall_const]
  rw [Aj]
  refine ⟨fun h => ?_, fun h => ?_⟩
  · have hlt : i < x.l.length := by simpa using h
    obtain ⟨c, hc⟩ : ∃ c, x.l[i]? = some c := ⟨_, List.getElem?_eq_getElem hlt⟩
    refine (hr.fr hs3.fr0).ldN (by decide) hc _ ?_
    refine Air (first := []) (cap := [.pointer (some ⟨g2, 0, none⟩)]) (K' := fun r w' => r = .bool (decide (c.1 = id)) ∧ Sep w w' [blk g2 (Rdr.cells (rVec 32) id).toArray Aa]) (by kernel_rfl) ?_ ?_
    · refine W4 fun R hR => ?_
      unfold NA
      refine bx_s hs3 fun g4 w4 hs4 => ?_
      simp only [Value.cells] at hs4
      simp only [fx, Nat.reduceAdd, forall_const, GN hs4.blk, EH hs4.blk, Dh hs4.blk, Ai hs4.p1.blk, B3]
      exact hR _ _ ⟨rfl, hs4.tail⟩
    · rintro _ w4 ⟨rfl, hs4⟩
      rw [Aj]
      refine ⟨fun h => ?_, fun hne => ?_⟩
      · exact hR _ _ ⟨by rw [LO hc (by simpa using h) hno], hs4.fr0⟩
      · rw [wi64 (by omega) (by omega)]
        refine ⟨⟨i + 1, by omega, by simp, fun j d hj hd => ?_, hs4⟩, by simp [RowKit.intOf]; omega⟩
        by_cases hji : j = i
        · subst hji; rw [hc] at hd; cases hd; simpa using hne
        · exact hno j d (by omega) hd
  · have hge : i = x.l.length := by simp at h; omega
    exact hR _ _ ⟨by rw [Un fun j d hd => hno j d (by have := (List.getElem?_eq_some_iff.1 hd).1; omega) hd], hs3.fr0⟩
theorem EK (hr : AB Ab w.heap v x.l) (hl : x.l.length ≤ 9223372036854775807) : cal P Dl [snv v x, idv id] w fun r w' => r = .int .i64 (plc x.l id) ∧ Fr [] w w' := by
  refine Yg fun R hR => ?_
  unfold OF
  refine bx_s (Sep.start w) fun g w1 hs => ?_
  refine bx_s hs fun g2 w2 hs => ?_
  simp only [Value.cells] at hs
  refine ⟨fun y w' => ∃ i : Nat, i ≤ x.l.length ∧ y = .int .i64 i ∧ (∀ (j : Nat) (d : Cho), j < i → x.l[j]? = some d → d.1 ≠ id) ∧ Sep w w' [blk g2 (Rdr.cells (rVec 32) id).toArray Aa, blk g (Rdr.cells Aq (snr v x)).toArray Ak], fun y _ => (x.l.length - RowKit.intOf y).toNat,
    ⟨0, by omega, rfl, by simp, hs⟩, ?_⟩
  rintro _ w3 ⟨i, hi, rfl, hno, hs3⟩ -
  simp only [fx, Nat.reduceAdd, forall_const, Ar hs3.p1.blk, Ad hs3.p1.blk, Ae hs3.p1.blk, Ac hs3.p1.blk, Ag hs3.p1.blk, Ah hs3.p1.blk, (hr.fr hs3.fr0).len]
  rw [Aj]
  refine ⟨fun h => ?_, fun h => ?_⟩
  · have hlt : i < x.l.length := by simpa using h
    obtain ⟨c, hc⟩ : ∃ c, x.l[i]? = some c := ⟨_, List.getElem?_eq_getElem hlt⟩
    refine CT hs3 fun w4 hs4 _ => ?_
    simp only [fx, Nat.reduceAdd, forall_const, Ar hs4.p1.blk, Ad hs4.p1.blk, Ae hs4.p1.blk, Ac hs4.p1.blk, Ag hs4.p1.blk, Ah hs4.p1.blk]
    obtain ⟨g5, o5, hat, hix⟩ := (hr.fr hs4.fr0).ix (by decide) hc
    have hix' : ∀ K, ixs 33 v (.int .i64 (i : Int)) K = K (.pointer (some ⟨g5, o5, none⟩)) := hix .i64
    simp only [fx, Nat.reduceAdd, forall_const, hix', Sg hat, Ai hs4.blk, B3]
    rw [Aj]
    refine ⟨fun h => ?_, fun hne => ?_⟩
    · exact hR _ _ ⟨by rw [LO hc (by simpa using h) hno], hs4.fr0⟩
    · rw [wi64 (by omega) (by omega)]
      refine ⟨⟨i + 1, by omega, by simp, fun j d hj hd => ?_, hs4⟩, by simp [RowKit.intOf]; omega⟩
      by_cases hji : j = i
      · subst hji; rw [hc] at hd; cases hd; simpa using hne
      · exact hno j d (by omega) hd
  · have hge : i = x.l.length := by simp at h; omega
    exact hR _ _ ⟨by rw [Un fun j d hd => hno j d (by have := (List.getElem?_eq_some_iff.1 hd).1; omega) hd], hs3.fr0⟩
end
end Go.Fx
namespace Go.Fx
theorem RQ (a b : Int) : (a == b) = decide (a = b) := by by_cases h : a = b <;> simp [h]
theorem WZ (a b : Int) : (a != b) = !decide (a = b) := by by_cases h : a = b <;> simp [h]
theorem AfJ (b1 b2 b3 b4 : Bool) : (((!b1 || b2) || b3) || b4) = !(b1 && (!b2 && (!b3 && !b4))) := by cases b1 <;> cases b2 <;> cases b3 <;> cases b4 <;> rfl
def Dm (x : Sn) : Int := ((x.l[(plc x.l x.pref).toNat]?).map (·.2)).getD 0
def Eb (x : Sn) (c : Cho) (i : Nat) : Bool := decide (plc x.l c.1 = (i : Int)) && (!decide (c.2 < 0) && (!decide (1073741824 < c.2) && !decide (Dm x < c.2)))
def Cy (p : Par) (x : Sn) : Prop := x.l.length < 1 ∨ 32 < x.l.length ∨ plc x.l x.pref < 0 ∨ plc x.l x.flake < 0 ∨ x.conf < 0 ∨ p.2.2.2 < x.conf ∨ x.dn ≠ decide (x.conf = p.2.2.2)
open Classical in
noncomputable def snE (p : Par) (x : Sn) : Int := if parE p ≠ 0 then parE p else if Cy p x then 171 else if ∀ i c, x.l[i]? = some c → Eb x c i = true then 0 else 171
theorem Xg {p : Par} {x : Sn} (h : parE p ≠ 0) : snE p x = parE p := by rw [snE, if_pos h]
theorem TF {p : Par} {x : Sn} (h : parE p = 0) (hb : Cy p x) : snE p x = 171 := by rw [snE, if_neg (by simpa using h), if_pos hb]
theorem Xq {p : Par} {x : Sn} (h : parE p = 0) {i : Nat} {c : Cho} (hc : x.l[i]? = some c) (hg : Eb x c i = false) : snE p x = 171 := by
  rw [snE, if_neg (by simpa using h)]
  split
  · rfl
  · rw [if_neg]
    intro hall
    rw [hall i c hc] at hg
    cases hg
theorem AaQ {p : Par} {x : Sn} (h : parE p = 0) (hb : ¬ Cy p x) (hg : ∀ i c, x.l[i]? = some c → Eb x c i = true) : snE p x = 0 := by rw [snE, if_neg (by simpa using h), if_neg hb, if_pos hg]
section
variable {w : World} {v : Value} {x : Sn} {p : Par}
theorem Lu (hr : AB Ab w.heap v x.l) (hl : x.l.length ≤ 9223372036854775807) : cal P GO [pav p, snv v x] w fun r w' => r = .int .i64 (snE p x) ∧ Fr [] w w' := by
  refine AbB fun R hR => ?_
  unfold QL
  refine bx_s (Sep.start w) fun g w1 hs => ?_
  refine bx_s hs fun g2 w2 hs => ?_
  simp only [Value.cells] at hs
  simp only [fx, Nat.reduceAdd, forall_const, Bi hs.p1.blk, AW hs.p1.blk, AG hs.p1.blk, AH hs.p1.blk, AQ hs.p1.blk]
  refine Af Kd ?_
  rintro _ w3 ⟨rfl, hf3⟩
  replace hs := hs.old hf3
  simp only [fx, Nat.reduceAdd, forall_const]
  rw [Aj]
  refine ⟨fun h => ?_, fun h => ?_⟩
  · exact hR _ _ ⟨by rw [Xg (by simpa using h)], hs.fr0⟩
  have hpar : parE p = 0 := by simpa using h
  simp only [Ar hs.blk, Ad hs.blk, Ae hs.blk, Ac hs.blk, Ag hs.blk, Ah hs.blk]
  refine Af (Fu (hr.fr hs.fr0) hl) ?_
  rintro _ w4 ⟨rfl, hf4⟩
  replace hs := hs.old hf4
  simp only [fx, Nat.reduceAdd, forall_const, Ar hs.blk, Ad hs.blk, Ae hs.blk, Ac hs.blk, Ag hs.blk, Ah hs.blk, (hr.fr hs.fr0).len]
  have hbad : Cy p x → ∀ w', Fr [] w w' → R (.int .i64 171) w' := fun h w' hf => hR _ _ ⟨by rw [TF hpar h], hf⟩
  cases hA : ((decide ((x.l.length : Int) < 1) || decide (32 < (x.l.length : Int))) || decide (plc x.l x.pref < 0)) with
  | true =>
    simp only [fx, Nat.reduceAdd, forall_const]
    refine hbad ?_ _ hs.fr0
    simp at hA
    unfold Cy
    omega
  | false =>
    simp only [fx, Nat.reduceAdd, forall_const]
    refine Bu (Af (Fu (hr.fr hs.fr0) hl) ?_)
    rintro _ w5 ⟨rfl, hf5⟩
    replace hs := hs.old hf5
    simp only [fx, Nat.reduceAdd, forall_const, Ar hs.blk, Ad hs.blk, Ae hs.blk, Ac hs.blk, Ag hs.blk, Ah hs.blk, Bi hs.p1.blk, AW hs.p1.blk, AG hs.p1.blk, AH hs.p1.blk, AQ hs.p1.blk, G5 _ _ U5, (hr.fr hs.fr0).len, RQ]
    simp at hA
    rw [Aj]
    refine ⟨fun h => ?_, fun h => ?_⟩
    · refine hbad ?_ _ hs.fr0
      simp at h
      unfold Cy
      by_cases h1 : plc x.l x.flake < 0
      · exact .inr (.inr (.inr (.inl h1)))
      by_cases h2 : x.conf < 0
      · exact .inr (.inr (.inr (.inr (.inl h2))))
      by_cases h3 : p.2.2.2 < x.conf
      · exact .inr (.inr (.inr (.inr (.inr (.inl h3)))))
      · refine .inr (.inr (.inr (.inr (.inr (.inr fun he => ?_)))))
        simp [h1, h2, h3, he] at h
    · simp at h
      have hnb : ¬ Cy p x := by
        unfold Cy
        rintro (h1 | h1 | h1 | h1 | h1 | h1 | h1)
        · omega
        · omega
        · omega
        · omega
        · omega
        · omega
        · exact h1 h.2
      obtain ⟨i0, c0, hpl, hc0, hcid, _⟩ : ∃ i c, plc x.l x.pref = ((i : Nat) : Int) ∧ x.l[i]? = some c ∧ c.1 = x.pref ∧ ∀ (j : Nat) (d : Cho), j < i → x.l[j]? = some d → d.1 ≠ x.pref := by
        rcases Ex x.l x.pref with ⟨h1, _⟩ | h1
        · omega
        · exact h1
      have hbest : Dm x = c0.2 := by rw [Dm, hpl, Int.toNat_natCast, hc0]; rfl
      refine ⟨fun y w' => ∃ i : Nat, i ≤ x.l.length ∧ y = .int .i64 i ∧ (∀ (j : Nat) (d : Cho), j < i → x.l[j]? = some d → Eb x d j = true) ∧ Sep w w' [blk g2 (Rdr.cells Aq (snr v x)).toArray Ak], fun y _ => (x.l.length - RowKit.intOf y).toNat,
        ⟨0, by omega, rfl, by simp, hs.d1⟩, ?_⟩
      rintro _ w6 ⟨i, hi, rfl, hgood, hs6⟩ -
      simp only [fx, Nat.reduceAdd, forall_const]
      rw [Aj]
      refine ⟨fun h => ?_, fun h => ?_⟩
      · have hlt : i < x.l.length := by simpa using h
        obtain ⟨c, hc⟩ : ∃ c, x.l[i]? = some c := ⟨_, List.getElem?_eq_getElem hlt⟩
        refine (hr.fr hs6.fr0).ldN (by decide) hc _ ?_
        refine Av hs6 (PN w6) fun g7 w7 hs7 => ?_
        refine OT hs7 Jw fun w8 hs8 => ?_
        refine Hi hs8 fun w9 hs9 _ => ?_
        simp only [fx, Nat.reduceAdd, forall_const, Fz, Nt, Ar hs9.p1.blk, Ad hs9.p1.blk, Ae hs9.p1.blk, Ac hs9.p1.blk, Ag hs9.p1.blk, Ah hs9.p1.blk, GN hs9.blk, EH hs9.blk, Dh hs9.blk]
        refine BD (Af (Fu (hr.fr hs9.fr0) hl) ?_)
        rintro _ w10 ⟨rfl, hf10⟩
        have hs10 := hs9.old hf10
        obtain ⟨g5, o5, hat, hix⟩ := (hr.fr hs10.fr0).ix (by decide) hc0
        have hix' : ∀ K, ixs 33 v (.int .i64 (i0 : Int)) K = K (.pointer (some ⟨g5, o5, none⟩)) := hix .i64
        simp only [fx, Nat.reduceAdd, forall_const, Fz, Nt, Ar hs10.p1.blk, Ad hs10.p1.blk, Ae hs10.p1.blk, Ac hs10.p1.blk, Ag hs10.p1.blk, Ah hs10.p1.blk, GN hs10.blk, EH hs10.blk, Dh hs10.blk, hpl, hix', C7 hat, WZ]
        have hgd : Eb x c i = (decide (plc x.l c.1 = (i : Int)) && (!decide (c.2 < 0) && (!decide (1073741824 < c.2) && !decide (c0.2 < c.2)))) := by rw [Eb, hbest]
        rw [AfJ, ← hgd, Aj]
        refine ⟨fun h => ?_, fun h => ?_⟩
        · exact hR _ _ ⟨by rw [Xq hpar hc (by simpa using h)], hs10.fr0⟩
        · have hgt : Eb x c i = true := by simpa using h
          rw [wi64 (by omega) (by omega)]
          refine ⟨⟨i + 1, by omega, by simp, fun j d hj hd => ?_, hs10.tail⟩, by simp [RowKit.intOf]; omega⟩
          by_cases hji : j = i
          · subst hji; rw [hc] at hd; cases hd; exact hgt
          · exact hgood j d (by omega) hd
      · have hge : i = x.l.length := by simp at h; omega
        exact hR _ _ ⟨by rw [AaQ hpar hnb fun j d hd => hgood j d (by have := (List.getElem?_eq_some_iff.1 hd).1; omega) hd], hs6.fr0⟩
end
end Go.Fx
namespace Go.Fx
section
variable {w : World} {v : Value} {x : Sn} {p : Par}
theorem IN (hp : PaOk p) (hr : AB Ab w.heap v x.l) (hl : x.l.length ≤ 9223372036854775807) : cal P ER [pav p, snv v x] w fun r w' => r = .int .i64 (snE p x) ∧ Fr [] w w' := by
  refine Yp fun R hR => ?_
  unfold OQ
  refine bx_s (Sep.start w) fun g w1 hs => ?_
  refine bx_s hs fun g2 w2 hs => ?_
  simp only [Value.cells] at hs
  simp only [fx, Nat.reduceAdd, forall_const, Bi hs.p1.blk, AW hs.p1.blk, AG hs.p1.blk, AH hs.p1.blk, AQ hs.p1.blk]
  refine Af (Kn hp) ?_
  rintro _ w3 ⟨rfl, hf3⟩
  replace hs := hs.old hf3
  simp only [fx, Nat.reduceAdd, forall_const]
  rw [Aj]
  refine ⟨fun h => ?_, fun h => ?_⟩
  · exact hR _ _ ⟨by rw [Xg (by simpa using h)], hs.fr0⟩
  have hpar : parE p = 0 := by simpa using h
  have hbad : Cy p x → ∀ w', Fr [] w w' → R (.int .i64 171) w' := fun h w' hf => hR _ _ ⟨by rw [TF hpar h], hf⟩
  simp only [fx, Nat.reduceAdd, forall_const, Ar hs.blk, Ad hs.blk, Ae hs.blk, Ac hs.blk, Ag hs.blk, Ah hs.blk, (hr.fr hs.fr0).len]
  cases hA : (decide ((x.l.length : Int) < 1) || decide (32 < (x.l.length : Int))) with
  | true =>
    simp only [fx, Nat.reduceAdd, forall_const]
    refine hbad ?_ _ hs.fr0
    simp at hA
    unfold Cy
    omega
  | false =>
  simp only [fx, Nat.reduceAdd, forall_const]
  simp at hA
  refine Bu (Af (EK (hr.fr hs.fr0) hl) ?_)
  rintro _ w4 ⟨rfl, hf4⟩
  replace hs := hs.old hf4
  simp only [fx, Nat.reduceAdd, forall_const]
  cases hB : decide (plc x.l x.pref < 0) with
  | true =>
    simp only [fx, Nat.reduceAdd, forall_const]
    refine hbad ?_ _ hs.fr0
    simp at hB
    unfold Cy
    omega
  | false =>
  simp only [fx, Nat.reduceAdd, forall_const, Ar hs.blk, Ad hs.blk, Ae hs.blk, Ac hs.blk, Ag hs.blk, Ah hs.blk]
  simp at hB
  refine Bu (Af (EK (hr.fr hs.fr0) hl) ?_)
  rintro _ w5 ⟨rfl, hf5⟩
  replace hs := hs.old hf5
  simp only [fx, Nat.reduceAdd, forall_const, Ar hs.blk, Ad hs.blk, Ae hs.blk, Ac hs.blk, Ag hs.blk, Ah hs.blk, Bi hs.p1.blk, AW hs.p1.blk, AG hs.p1.blk, AH hs.p1.blk, AQ hs.p1.blk, G5 _ _ U5, (hr.fr hs.fr0).len, RQ]
  rw [Aj]
  refine ⟨fun h => ?_, fun h => ?_⟩
  · refine hbad ?_ _ hs.fr0
    simp at h
    unfold Cy
    by_cases h1 : plc x.l x.flake < 0
    · exact .inr (.inr (.inr (.inl h1)))
    by_cases h2 : x.conf < 0
    · exact .inr (.inr (.inr (.inr (.inl h2))))
    by_cases h3 : p.2.2.2 < x.conf
    · exact .inr (.inr (.inr (.inr (.inr (.inl h3)))))
    · refine .inr (.inr (.inr (.inr (.inr (.inr fun he => ?_)))))
      simp [h1, h2, h3, he] at h
  · simp at h
    have hnb : ¬ Cy p x := by
      unfold Cy
      rintro (h1 | h1 | h1 | h1 | h1 | h1 | h1)
      · omega
      · omega
      · omega
      · omega
      · omega
      · omega
      · exact h1 h.2
    obtain ⟨i0, c0, hpl, hc0, hcid, _⟩ : ∃ i c, plc x.l x.pref = ((i : Nat) : Int) ∧ x.l[i]? = some c ∧ c.1 = x.pref ∧ ∀ (j : Nat) (d : Cho), j < i → x.l[j]? = some d → d.1 ≠ x.pref := by
      rcases Ex x.l x.pref with ⟨h1, _⟩ | h1
      · omega
      · exact h1
    have hbest : Dm x = c0.2 := by rw [Dm, hpl, Int.toNat_natCast, hc0]; rfl
    refine A0 hs fun w6 hs6 _ => ?_
    refine Ai4 (v := v) (fun u hu => Sep.blk hu) rfl ?_
    refine ⟨snv v x, fun u hu => ?_, ?_⟩
    · show ldN 67 _ u.heap _
      rw [Ar (Sep.blk hu)]
    refine ⟨idv x.pref, fun u hu => ?_, ?_⟩
    · show ldN 32 _ u.heap _
      rw [Ae (Sep.blk hu)]
    refine AL (Af (EK (hr.fr hs6.fr0) hl) ?_)
    rintro _ w7 ⟨rfl, hf7⟩
    have hs7 := hs6.old hf7
    refine ⟨hs7, ?_⟩
    rw [hpl]
    refine WS (q := Ab) (.snd .self) rfl (by decide) hs7 (fun u hu => hr.fr (Sep.fr0 hu)) hc0 .i64 ?_
    refine ⟨fun y w' => ∃ i : Nat, i ≤ x.l.length ∧ y = .int .i64 i ∧ (∀ (j : Nat) (d : Cho), j < i → x.l[j]? = some d → Eb x d j = true) ∧ Sep w w' [blk g2 (Rdr.cells Aq (snr v x)).toArray Ak], fun y _ => (x.l.length - RowKit.intOf y).toNat,
      ⟨0, by omega, rfl, by simp, hs7.d1⟩, ?_⟩
    rintro _ w8 ⟨i, hi, rfl, hgood, hs8⟩ -
    simp only [fx, Nat.reduceAdd, forall_const, Ar hs8.blk, Ad hs8.blk, Ae hs8.blk, Ac hs8.blk, Ag hs8.blk, Ah hs8.blk, (hr.fr hs8.fr0).len]
    rw [Aj]
    refine ⟨fun h => ?_, fun h => ?_⟩
    · have hlt : i < x.l.length := by simpa using h
      obtain ⟨c, hc⟩ : ∃ c, x.l[i]? = some c := ⟨_, List.getElem?_eq_getElem hlt⟩
      refine (hr.fr hs8.fr0).ldN (by decide) hc _ ?_
      refine Av hs8 (PN w8) fun g9 w9 hs9 => ?_
      refine OT hs9 Jw fun w10 hs10 => ?_
      simp only [fx, Nat.reduceAdd, forall_const, Ar hs10.p1.blk, Ad hs10.p1.blk, Ae hs10.p1.blk, Ac hs10.p1.blk, Ag hs10.p1.blk, Ah hs10.p1.blk, GN hs10.blk, EH hs10.blk, Dh hs10.blk]
      refine (Af (EK (hr.fr hs10.fr0) hl) ?_)
      rintro _ w11 ⟨rfl, hf11⟩
      have hs11 := hs10.old hf11
      simp only [fx, Nat.reduceAdd, forall_const, GN hs11.blk, EH hs11.blk, Dh hs11.blk, WZ]
      have hgd : Eb x c i = (decide (plc x.l c.1 = (i : Int)) && (!decide (c.2 < 0) && (!decide (1073741824 < c.2) && !decide (c0.2 < c.2)))) := by rw [Eb, hbest]
      rw [AfJ, ← hgd, Aj]
      refine ⟨fun h => ?_, fun h => ?_⟩
      · exact hR _ _ ⟨by rw [Xq hpar hc (by simpa using h)], hs11.fr0⟩
      · have hgt : Eb x c i = true := by simpa using h
        rw [wi64 (by omega) (by omega)]
        refine ⟨⟨i + 1, by omega, by simp, fun j d hj hd => ?_, hs11.tail⟩, by simp [RowKit.intOf]; omega⟩
        by_cases hji : j = i
        · subst hji; rw [hc] at hd; cases hd; exact hgt
        · exact hgood j d (by omega) hd
    · have hge : i = x.l.length := by simp at h; omega
      exact hR _ _ ⟨by rw [AaQ hpar hnb fun j d hd => hgood j d (by have := (List.getElem?_eq_some_iff.1 hd).1; omega) hd], hs8.fr0⟩
end
end Go.Fx
namespace Go.Fx
abbrev tupS (x : Sn) : Id × Id × Int × Bool × List Cho := (x.pref, x.flake, x.conf, x.dn, x.l)
noncomputable def Oy (x y : Sn) : Bool := @decide (tupS x = tupS y) (Classical.propDecidable _)
theorem Abp {x y : Sn} (h : tupS x ≠ tupS y) : Oy x y = false := by simp [Oy, h]
theorem AgJ {x y : Sn} (h : tupS x = tupS y) : Oy x y = true := by simp [Oy, h]
section
variable {w : World} {v u : Value} {x y : Sn} {p : Par} {id : Id}
theorem AdV {x y : Sn} (h1 : x.pref = y.pref) (h2 : x.flake = y.flake) (h3 : x.conf = y.conf) (h4 : x.dn = y.dn) (hl : x.l.length = y.l.length) (h5 : ∀ (j : Nat) (c d : Cho), x.l[j]? = some c → y.l[j]? = some d → c = d) : tupS x = tupS y := by
  have : x.l = y.l := by
    apply List.ext_getElem hl
    intro j a b
    exact h5 j _ _ (List.getElem?_eq_getElem a) (List.getElem?_eq_getElem b)
  simp [tupS, h1, h2, h3, h4, this]
theorem AcF (hr : AB Ab w.heap v x.l) (hs' : AB Ab w.heap u y.l) (hl : x.l.length ≤ 9223372036854775807) (hl' : y.l.length ≤ 9223372036854775807) : cal P LK [snv v x, snv u y] w fun r w' => r = .bool (Oy x y) ∧ Fr [] w w' := by
  refine Aa4 fun R hR => ?_
  unfold QO
  refine bx_s (Sep.start w) fun g w1 hs => ?_
  refine bx_s hs fun g2 w2 hs => ?_
  simp only [Value.cells] at hs
  simp only [fx, Nat.reduceAdd, forall_const, Ar hs.blk, Ad hs.blk, Ae hs.blk, Ac hs.blk, Ag hs.blk, Ah hs.blk, Ar hs.p1.blk, Ad hs.p1.blk, Ae hs.p1.blk, Ac hs.p1.blk, Ag hs.p1.blk, Ah hs.p1.blk, C0, WZ, G5 _ _ U5, (hr.fr hs.fr0).len, (hs'.fr hs.fr0).len]
  rw [Aj]
  refine ⟨fun h => ?_, fun h => ?_⟩
  · have hne : tupS x ≠ tupS y := by
      intro he
      simp only [tupS, Prod.mk.injEq] at he
      obtain ⟨e1, e2, e3, e4, e5⟩ := he
      simp [e1, e2, e3, e4, e5] at h
    exact hR _ _ ⟨by rw [Abp hne], hs.fr0⟩
  · simp at h
    obtain ⟨⟨⟨⟨e5, e1⟩, e2⟩, e3⟩, e4⟩ := h
    refine ⟨fun z w' => ∃ i : Nat, i ≤ x.l.length ∧ z = .int .i64 i ∧ (∀ (j : Nat) (c d : Cho), j < i → x.l[j]? = some c → y.l[j]? = some d → c = d) ∧ Sep w w' [blk g2 (Rdr.cells Aq (snr u y)).toArray Ak, blk g (Rdr.cells Aq (snr v x)).toArray Ak],
      fun z _ => (x.l.length - RowKit.intOf z).toNat, ⟨0, by omega, rfl, by simp, hs⟩, ?_⟩
    rintro _ w3 ⟨i, hi, rfl, hall, hs3⟩ -
    simp only [fx, Nat.reduceAdd, forall_const, Ar hs3.blk, Ad hs3.blk, Ae hs3.blk, Ac hs3.blk, Ag hs3.blk, Ah hs3.blk, Ar hs3.p1.blk, Ad hs3.p1.blk, Ae hs3.p1.blk, Ac hs3.p1.blk, Ag hs3.p1.blk, Ah hs3.p1.blk, (hr.fr hs3.fr0).len]
    rw [Aj]
    refine ⟨fun h => ?_, fun h => ?_⟩
    · have hlt : i < x.l.length := by simpa using h
      obtain ⟨c, hc⟩ : ∃ c, x.l[i]? = some c := ⟨_, List.getElem?_eq_getElem hlt⟩
      obtain ⟨d, hd⟩ : ∃ d, y.l[i]? = some d := ⟨_, List.getElem?_eq_getElem (by omega)⟩
      refine CT hs3 fun w4 hs4 _ => ?_
      simp only [fx, Nat.reduceAdd, forall_const, Ar hs4.blk, Ad hs4.blk, Ae hs4.blk, Ac hs4.blk, Ag hs4.blk, Ah hs4.blk, Ar hs4.p1.blk, Ad hs4.p1.blk, Ae hs4.p1.blk, Ac hs4.p1.blk, Ag hs4.p1.blk, Ah hs4.p1.blk]
      refine (hr.fr hs4.fr0).ldN (by decide) hc _ ?_
      refine (hs'.fr hs4.fr0).ldN (by decide) hd _ ?_
      rw [YI, Aj]
      refine ⟨fun h => ?_, fun hne => ?_⟩
      · have hne : tupS x ≠ tupS y := by
          intro he
          simp only [tupS, Prod.mk.injEq] at he
          rw [he.2.2.2.2, hd] at hc
          cases hc
          simp at h
        exact hR _ _ ⟨by rw [Abp hne], hs4.fr0⟩
      · rw [wi64 (by omega) (by omega)]
        refine ⟨⟨i + 1, by omega, by simp, fun j c' d' hj hc' hd' => ?_, hs4⟩, by simp [RowKit.intOf]; omega⟩
        by_cases hji : j = i
        · subst hji
          rw [hc] at hc'
          rw [hd] at hd'
          cases hc'; cases hd'
          simpa using hne
        · exact hall j c' d' (by omega) hc' hd'
    · have hge : i = x.l.length := by simp at h; omega
      exact hR _ _ ⟨by rw [AgJ (AdV e1 e2 e3 e4 (by omega) fun j c d hc hd => hall j c d (by have := (List.getElem?_eq_some_iff.1 hc).1; omega) hc hd)], hs3.fr0⟩
theorem PV (l : List Cho) : ∀ u ∈ l.flatMap (Rdr.cells Ab), u.oneCell' = true := by
  intro u hu
  obtain ⟨a, _, ha⟩ := List.mem_flatMap.1 hu
  exact Jw u ha
theorem AcV {l : List Cho} (hr : AB Ab w.heap v l) (hl : l.length ≤ 1000000) : cal P CY [v] w fun r w' => Sep w w' [rows Ab r l] := by
  refine Hb fun R hR => ?_
  unfold Ec
  obtain ⟨a, c, hv, hl', hh⟩ := id hr
  subst hv
  cases a with
  | none =>
    have h0 : l = [] := by
      rcases hh with h0 | ⟨_, _, _, _, _, h, _⟩
      · have hsz : Rdr.size Ab = 33 := rfl
        rw [hsz] at h0
        exact List.eq_nil_of_length_eq_zero (by omega)
      · cases h
    subst h0
    simp only [fx, Nat.reduceAdd, forall_const]
    exact hR _ _ (Sep.start w).nilR
  | some a =>
    simp only [fx, Nat.reduceAdd, forall_const]
    have hb1 : ∀ w : World, (Instr.buildSlice Bd 0 #[]).run P w = .ok (.slice (some ⟨w.heap.size, 0, none⟩) 0 0) (w.alloc (.cells (([] : List Cho).flatMap (Rdr.cells Ab)).toArray BH)) := fun w => by kernel_rfl
    refine WE (q := Ab) (l := []) (Sep.start w) rfl (hb1 _) fun g w1 hs => ?_
    refine BX CR E5 (by simp) hs (hr.fr hs.fr0) (PV l) (by simp; omega) (by simp; omega) fun v' w2 hs => ?_
    exact hR _ _ hs
theorem Of (hr : AB Ab w.heap v x.l) (hl : x.l.length ≤ 1000000) (h1 : v.oneCell' = true) : cal P IZ [snv v x] w fun r w' => ∃ v', r = snv v' x ∧ Sep w w' [rows Ab v' x.l] := by
  refine AdF fun R hR => ?_
  unfold Vw
  refine bx_s (Sep.start w) fun g w1 hs => ?_
  simp only [Value.cells] at hs
  refine Av hs (Bo w1) fun g2 w2 hs => ?_
  simp only [fx, Nat.reduceAdd, forall_const, Ar hs.p1.blk, Ad hs.p1.blk, Ae hs.p1.blk, Ac hs.p1.blk, Ag hs.p1.blk, Ah hs.p1.blk]
  refine Af (AcV (hr.fr hs.fr0) hl) ?_
  rintro v' w3 hs3
  replace hs := hs.join hs3
  clear hs3
  refine Ep (Sep.p2 hs) (Sep.oneR hs) fun w4 hs4 => ?_
  simp only [Ar hs4.blk, Ad hs4.blk, Ae hs4.blk, Ac hs4.blk, Ag hs4.blk, Ah hs4.blk]
  refine AJ hs4.p2 (AD (Sep.oneR hs)) fun w5 hs5 => ?_
  simp only [Ar hs5.blk, Ad hs5.blk, Ae hs5.blk, Ac hs5.blk, Ag hs5.blk, Ah hs5.blk]
  exact hR _ _ ⟨v', rfl, hs5.p2.d2.d1⟩
theorem GZ (hr : AB Ab w.heap v x.l) (hl : x.l.length ≤ 1000000) (h1 : v.oneCell' = true) : cal P Eo [snv v x] w fun r w' => ∃ v', r = snv v' x ∧ Sep w w' [rows Ab v' x.l] := by
  refine Yt fun R hR => ?_
  unfold OZ
  refine bx_s (Sep.start w) fun g w1 hs => ?_
  simp only [Value.cells] at hs
  refine Av hs (Bo w1) fun g2 w2 hs => ?_
  simp only [fx, Nat.reduceAdd, forall_const, Ar hs.p1.blk, Ad hs.p1.blk, Ae hs.p1.blk, Ac hs.p1.blk, Ag hs.p1.blk, Ah hs.p1.blk]
  refine BX (q := Ab) CR E5 (by simp) (Sep.nilR hs) (hr.fr hs.fr0) (PV x.l) (by simp; omega) (by simp; omega) fun v' w3 hs3 => ?_
  refine Ep hs3.p2 hs3.oneR fun w4 hs4 => ?_
  simp only [Ar hs4.blk, Ad hs4.blk, Ae hs4.blk, Ac hs4.blk, Ag hs4.blk, Ah hs4.blk]
  refine AJ hs4.p2 (AD hs3.oneR) fun w5 hs5 => ?_
  simp only [Ar hs5.blk, Ad hs5.blk, Ae hs5.blk, Ac hs5.blk, Ag hs5.blk, Ah hs5.blk]
  exact hR _ _ ⟨v', rfl, hs5.p2.d2.d1⟩
theorem NF : cal P Hl [snv v x] w fun r w' => r = idv (bif x.dn then x.flake else x.pref) ∧ Fr [] w w' := by
  refine Xd fun R hR => ?_
  unfold Ns
  refine bx_s (Sep.start w) fun g w1 hs => ?_
  simp only [Value.cells] at hs
  refine Av hs (AS w1) fun g2 w2 hs => ?_
  simp only [fx, Nat.reduceAdd, forall_const, Ar hs.p1.blk, Ad hs.p1.blk, Ae hs.p1.blk, Ac hs.p1.blk, Ag hs.p1.blk, Ah hs.p1.blk]
  rw [Aj]
  refine ⟨fun h => ?_, fun h => ?_⟩
  · refine AE hs fun w3 hs => ?_
    simp only [Ai hs.blk]
    exact hR _ _ ⟨by rw [h]; rfl, hs.fr0⟩
  · refine AE hs fun w3 hs => ?_
    simp only [Ai hs.blk]
    exact hR _ _ ⟨by rw [h]; rfl, hs.fr0⟩
theorem NE : cal P GG [snv v x] w fun r w' => r = idv (bif x.dn then x.flake else x.pref) ∧ Fr [] w w' := by
  refine Vc fun R hR => ?_
  unfold Mr
  refine bx_s (Sep.start w) fun g w1 hs => ?_
  simp only [Value.cells] at hs
  refine Av hs (AS w1) fun g2 w2 hs => ?_
  simp only [fx, Nat.reduceAdd, forall_const, Ar hs.p1.blk, Ad hs.p1.blk, Ae hs.p1.blk, Ac hs.p1.blk, Ag hs.p1.blk, Ah hs.p1.blk]
  rw [Aj]
  refine ⟨fun h => ?_, fun h => ?_⟩
  · refine AE hs fun w3 hs => ?_
    simp only [Ai hs.blk]
    exact hR _ _ ⟨by rw [h]; rfl, hs.fr0⟩
  · refine AE hs fun w3 hs => ?_
    simp only [Ai hs.blk]
    exact hR _ _ ⟨by rw [h]; rfl, hs.fr0⟩
theorem AeR (hr : AB Ab w.heap v x.l) (hl : x.l.length ≤ 9223372036854775807) : cal P OD [snv v x, idv id] w fun r w' => r = .bool (decide (0 ≤ plc x.l id)) ∧ Fr [] w w' := by
  refine Aee fun R hR => ?_
  unfold WG
  refine bx_s (Sep.start w) fun g w1 hs => ?_
  refine bx_s hs fun g2 w2 hs => ?_
  simp only [Value.cells] at hs
  simp only [fx, Nat.reduceAdd, forall_const, Ar hs.p1.blk, Ad hs.p1.blk, Ae hs.p1.blk, Ac hs.p1.blk, Ag hs.p1.blk, Ah hs.p1.blk, Ai hs.blk]
  refine Af (Fu (hr.fr hs.fr0) hl) ?_
  rintro _ w3 ⟨rfl, hf3⟩
  simp only [fx, Nat.reduceAdd, forall_const]
  exact hR _ _ ⟨rfl, (hs.old hf3).fr0⟩
end
end Go.Fx
namespace Go.Fx
def snZ : Sn := ⟨[], vz 32, vz 32, 0, false⟩
noncomputable def addM (p : Par) (x : Sn) (id : Id) : Sn × Int :=
  if snE p x ≠ 0 then (snZ, snE p x) else if 0 ≤ plc x.l id then (snZ, 110) else if 32 ≤ x.l.length then (snZ, 6) else ({ x with l := x.l ++ [(id, 0)] }, 0)
noncomputable def BC (p : Par) (x : Sn) : Sn × Int := if snE p x ≠ 0 then (snZ, snE p x) else (if x.dn then x else { x with conf := 0 }, 0)
def newM (p : Par) (id : Id) : Sn × Int := if parE p ≠ 0 then (snZ, parE p) else (⟨[(id, 0)], id, id, 0, false⟩, 0)
def SnQ (m : Sn × Int) (w : World) (r : Value) (w' : World) : Prop := ∃ v, r = .tuple #[snv v m.1, .int .i64 m.2] ∧ Sep w w' [rows Ab v m.1.l]
theorem Ac7 {p : Par} {x : Sn} (h : snE p x = 0) : 1 ≤ x.l.length ∧ x.l.length ≤ 32 := by
  unfold snE at h
  split at h
  · rename_i h1; exact absurd h h1
  · split at h
    · cases h
    · rename_i h2
      unfold Cy at h2
      omega
section
variable {w : World} {v u : Value} {x y : Sn} {p : Par} {id : Id}
theorem Aem : cal P Od [pav p, idv id] w fun r w' => SnQ (newM p id) w r w' := by
  refine Ad6 fun R hR => ?_
  unfold Ws
  refine bx_s (Sep.start w) fun g w1 hs => ?_
  refine bx_s hs fun g2 w2 hs => ?_
  simp only [Value.cells] at hs
  refine Av hs (Bo w2) fun g3 w3 hs => ?_
  simp only [fx, Nat.reduceAdd, forall_const, Bi hs.p2.blk, AW hs.p2.blk, AG hs.p2.blk, AH hs.p2.blk, AQ hs.p2.blk]
  refine Af Kd ?_
  rintro _ w4 ⟨rfl, hf4⟩
  replace hs := hs.old hf4
  simp only [fx, Nat.reduceAdd, forall_const]
  rw [Aj]
  refine ⟨fun h => ?_, fun h => ?_⟩
  · have h : parE p ≠ 0 := by simpa using h
    rw [Ce]
    refine AJ hs (AD rfl) fun w5 hs => ?_
    simp only [Ar hs.blk, Ad hs.blk, Ae hs.blk, Ac hs.blk, Ag hs.blk, Ah hs.blk]
    refine hR _ _ ⟨.slice none 0 0, ?_, ?_⟩
    · rw [newM, if_pos h]; rfl
    · rw [newM, if_pos h]; exact (Sep.nilR (hs.d1.d1)).d1
  · have h : ¬ parE p ≠ 0 := by simpa using h
    simp only [Ai hs.p1.blk, Hk]
    refine CQ (q := Ab) (l := [((id, 0) : Cho)]) (V := fun c => .agg (Rdr.cells Ab c).toArray) hs CR (fun a => rfl) rfl rfl (by decide) (by decide) fun g5 w5 hs5 => ?_
    simp only [Ai hs5.p2.blk]
    rw [L8 rfl]
    refine AJ hs5.p1 (AD rfl) fun w6 hs6 => ?_
    simp only [Ar hs6.blk, Ad hs6.blk, Ae hs6.blk, Ac hs6.blk, Ag hs6.blk, Ah hs6.blk]
    refine hR _ _ ⟨.slice (some ⟨g5, 0, none⟩) 1 1, ?_, ?_⟩
    · rw [newM, if_neg h]
    · rw [newM, if_neg h]; exact hs6.tail.d1.d1
theorem VZ (hp : PaOk p) : cal P JD [pav p, idv id] w fun r w' => SnQ (newM p id) w r w' := by
  refine AcK fun R hR => ?_
  unfold S7
  refine bx_s (Sep.start w) fun g w1 hs => ?_
  refine bx_s hs fun g2 w2 hs => ?_
  simp only [Value.cells] at hs
  refine Av hs (Bo w2) fun g3 w3 hs => ?_
  simp only [fx, Nat.reduceAdd, forall_const, Bi hs.p2.blk, AW hs.p2.blk, AG hs.p2.blk, AH hs.p2.blk, AQ hs.p2.blk]
  refine Af (Kn hp) ?_
  rintro _ w4 ⟨rfl, hf4⟩
  replace hs := hs.old hf4
  simp only [fx, Nat.reduceAdd, forall_const]
  rw [Aj]
  refine ⟨fun h => ?_, fun h => ?_⟩
  · have h : parE p ≠ 0 := by simpa using h
    rw [Ce]
    refine AJ hs (AD rfl) fun w5 hs => ?_
    simp only [Ar hs.blk, Ad hs.blk, Ae hs.blk, Ac hs.blk, Ag hs.blk, Ah hs.blk]
    refine hR _ _ ⟨.slice none 0 0, ?_, ?_⟩
    · rw [newM, if_pos h]; rfl
    · rw [newM, if_pos h]; exact (Sep.nilR (hs.d1.d1)).d1
  · have h : ¬ parE p ≠ 0 := by simpa using h
    simp only [Ai hs.p1.blk, Hk]
    refine CQ (q := Ab) (l := [((id, 0) : Cho)]) (V := fun c => .agg (Rdr.cells Ab c).toArray) hs CR (fun a => rfl) rfl rfl (by decide) (by decide) fun g5 w5 hs5 => ?_
    simp only [Ai hs5.p2.blk]
    rw [L8 rfl]
    refine AJ hs5.p1 (AD rfl) fun w6 hs6 => ?_
    simp only [Ar hs6.blk, Ad hs6.blk, Ae hs6.blk, Ac hs6.blk, Ag hs6.blk, Ah hs6.blk]
    refine hR _ _ ⟨.slice (some ⟨g5, 0, none⟩) 1 1, ?_, ?_⟩
    · rw [newM, if_neg h]
    · rw [newM, if_neg h]; exact hs6.tail.d1.d1
theorem AdK (hr : AB Ab w.heap v x.l) (hl : x.l.length ≤ 1000000) (h1 : v.oneCell' = true) : cal P Ob [pav p, snv v x, idv id] w fun r w' => SnQ (addM p x id) w r w' := by
  refine AeL fun R hR => ?_
  unfold V5
  refine bx_s (Sep.start w) fun g w1 hs => ?_
  refine bx_s hs fun g2 w2 hs => ?_
  refine bx_s hs fun g3 w3 hs => ?_
  simp only [Value.cells] at hs
  refine Av hs (Bo w3) fun g4 w4 hs => ?_
  simp only [fx, Nat.reduceAdd, forall_const, Bi hs.p3.blk, AW hs.p3.blk, AG hs.p3.blk, AH hs.p3.blk, AQ hs.p3.blk, Ar hs.p2.blk, Ad hs.p2.blk, Ae hs.p2.blk, Ac hs.p2.blk, Ag hs.p2.blk, Ah hs.p2.blk]
  refine Af (Lu (hr.fr hs.fr0) (by omega)) ?_
  rintro _ w5 ⟨rfl, hf5⟩
  replace hs := hs.old hf5
  have hzero : ∀ {w' : World} {e : Int}, (addM p x id) = (snZ, e) → Sep w w' [blk g4 (Rdr.cells Aq (.slice none 0 0, vz 32, vz 32, 0, false)).toArray Ak] → R (.tuple #[snv (.slice none 0 0) snZ, .int .i64 e]) w' := fun he hs' =>
    hR _ _ ⟨.slice none 0 0, by rw [he], by rw [he]; exact (Sep.nilR hs').d1⟩
  simp only [fx, Nat.reduceAdd, forall_const]
  rw [Aj]
  refine ⟨fun h => ?_, fun h => ?_⟩
  · have h : snE p x ≠ 0 := by simpa using h
    rw [Ce]
    refine AJ hs (AD rfl) fun w5 hs => ?_
    simp only [Ar hs.blk, Ad hs.blk, Ae hs.blk, Ac hs.blk, Ag hs.blk, Ah hs.blk]
    exact hzero (by rw [addM, if_pos h]) hs.d1.d1.d1
  have hE : ¬ snE p x ≠ 0 := by simpa using h
  simp only [Ar hs.p2.blk, Ad hs.p2.blk, Ae hs.p2.blk, Ac hs.p2.blk, Ag hs.p2.blk, Ah hs.p2.blk, Ai hs.p1.blk]
  refine Af (AeR (hr.fr hs.fr0) (by omega)) ?_
  rintro _ w6 ⟨rfl, hf6⟩
  replace hs := hs.old hf6
  rw [Aj]
  refine ⟨fun h => ?_, fun h => ?_⟩
  · have h : 0 ≤ plc x.l id := by simpa using h
    rw [Ce]
    refine AJ hs (AD rfl) fun w5 hs => ?_
    simp only [Ar hs.blk, Ad hs.blk, Ae hs.blk, Ac hs.blk, Ag hs.blk, Ah hs.blk]
    exact hzero (by rw [addM, if_neg hE, if_pos h]) hs.d1.d1.d1
  have hpl : ¬ 0 ≤ plc x.l id := by simpa using h
  obtain ⟨hn1, hn2⟩ := Ac7 (p := p) (x := x) (by simpa using hE)
  simp only [fx, Nat.reduceAdd, forall_const, Ar hs.p2.blk, Ad hs.p2.blk, Ae hs.p2.blk, Ac hs.p2.blk, Ag hs.p2.blk, Ah hs.p2.blk, (hr.fr hs.fr0).len]
  rw [Aj]
  refine ⟨fun h => ?_, fun h => ?_⟩
  · have h : 32 ≤ x.l.length := by simp at h; omega
    rw [Ce]
    refine AJ hs (AD rfl) fun w5 hs => ?_
    simp only [Ar hs.blk, Ad hs.blk, Ae hs.blk, Ac hs.blk, Ag hs.blk, Ah hs.blk]
    exact hzero (by rw [addM, if_neg hE, if_neg hpl, if_pos h]) hs.d1.d1.d1
  have h32 : ¬ 32 ≤ x.l.length := by simp at h; omega
  refine Af (Of (hr.fr hs.fr0) hl h1) ?_
  rintro _ w7 ⟨v', rfl, hs7⟩
  replace hs7 := hs.join hs7
  refine AJ (Sep.p3 hs7) (AD (Sep.oneR hs7)) fun w8 hs8 => ?_
  simp only [fx, Nat.reduceAdd, forall_const, Ar hs8.blk, Ad hs8.blk, Ae hs8.blk, Ac hs8.blk, Ag hs8.blk, Ah hs8.blk, Ai hs8.p3.blk, Hk]
  refine CQ (q := Ab) (l := [((id, 0) : Cho)]) (V := fun c => .agg (Rdr.cells Ab c).toArray) hs8 CR (fun a => rfl) rfl rfl (by decide) (by decide) fun g9 w9 hs9 => ?_
  refine BX (q := Ab) CR E5 (by simp) hs9.p2 (Sep.rows hs9) (PV _) (by simp; omega) (by simp; omega) fun v'' w10 hs10 => ?_
  refine Ep hs10.p2 hs10.oneR fun w11 hs11 => ?_
  simp only [Ar hs11.blk, Ad hs11.blk, Ae hs11.blk, Ac hs11.blk, Ag hs11.blk, Ah hs11.blk]
  refine AJ hs11.p3 (AD hs10.oneR) fun w12 hs12 => ?_
  simp only [Ar hs12.blk, Ad hs12.blk, Ae hs12.blk, Ac hs12.blk, Ag hs12.blk, Ah hs12.blk]
  have ha : addM p x id = ({ x with l := x.l ++ [(id, 0)] }, 0) := by rw [addM, if_neg hE, if_neg hpl, if_neg h32]
  exact hR _ _ ⟨v'', by rw [ha], by rw [ha]; exact hs12.p2.d1.d1.d1.d1.d1⟩
theorem AdB (hp : PaOk p) (hr : AB Ab w.heap v x.l) (hl : x.l.length ≤ 1000000) (h1 : v.oneCell' = true) : cal P MM [pav p, snv v x, idv id] w fun r w' => SnQ (addM p x id) w r w' := by
  refine Acb fun R hR => ?_
  unfold Tk
  refine bx_s (Sep.start w) fun g w1 hs => ?_
  refine bx_s hs fun g2 w2 hs => ?_
  refine bx_s hs fun g3 w3 hs => ?_
  simp only [Value.cells] at hs
  refine Av hs (Bo w3) fun g4 w4 hs => ?_
  simp only [fx, Nat.reduceAdd, forall_const, Bi hs.p3.blk, AW hs.p3.blk, AG hs.p3.blk, AH hs.p3.blk, AQ hs.p3.blk, Ar hs.p2.blk, Ad hs.p2.blk, Ae hs.p2.blk, Ac hs.p2.blk, Ag hs.p2.blk, Ah hs.p2.blk]
  refine Af (IN hp (hr.fr hs.fr0) (by omega)) ?_
  rintro _ w5 ⟨rfl, hf5⟩
  replace hs := hs.old hf5
  have hzero : ∀ {w' : World} {e : Int}, (addM p x id) = (snZ, e) → Sep w w' [blk g4 (Rdr.cells Aq (.slice none 0 0, vz 32, vz 32, 0, false)).toArray Ak] → R (.tuple #[snv (.slice none 0 0) snZ, .int .i64 e]) w' := fun he hs' =>
    hR _ _ ⟨.slice none 0 0, by rw [he], by rw [he]; exact (Sep.nilR hs').d1⟩
  simp only [fx, Nat.reduceAdd, forall_const]
  rw [Aj]
  refine ⟨fun h => ?_, fun h => ?_⟩
  · have h : snE p x ≠ 0 := by simpa using h
    rw [Ce]
    simp only [Bi hs.p3.blk, AW hs.p3.blk, AG hs.p3.blk, AH hs.p3.blk, AQ hs.p3.blk, Ar hs.p2.blk, Ad hs.p2.blk, Ae hs.p2.blk, Ac hs.p2.blk, Ag hs.p2.blk, Ah hs.p2.blk]
    refine Af (IN hp (hr.fr hs.fr0) (by omega)) ?_
    rintro _ w6 ⟨rfl, hf6⟩
    replace hs := hs.old hf6
    refine AJ hs (AD rfl) fun w5 hs => ?_
    simp only [Ar hs.blk, Ad hs.blk, Ae hs.blk, Ac hs.blk, Ag hs.blk, Ah hs.blk]
    exact hzero (by rw [addM, if_pos h]) hs.d1.d1.d1
  have hE : ¬ snE p x ≠ 0 := by simpa using h
  simp only [Ar hs.p2.blk, Ad hs.p2.blk, Ae hs.p2.blk, Ac hs.p2.blk, Ag hs.p2.blk, Ah hs.p2.blk, Ai hs.p1.blk]
  refine Af (EK (hr.fr hs.fr0) (by omega)) ?_
  rintro _ w6 ⟨rfl, hf6⟩
  replace hs := hs.old hf6
  simp only [fx, Nat.reduceAdd, forall_const]
  rw [Aj]
  refine ⟨fun h => ?_, fun h => ?_⟩
  · have h : 0 ≤ plc x.l id := by simpa using h
    rw [Ce]
    refine AJ hs (AD rfl) fun w5 hs => ?_
    simp only [Ar hs.blk, Ad hs.blk, Ae hs.blk, Ac hs.blk, Ag hs.blk, Ah hs.blk]
    exact hzero (by rw [addM, if_neg hE, if_pos h]) hs.d1.d1.d1
  have hpl : ¬ 0 ≤ plc x.l id := by simpa using h
  obtain ⟨hn1, hn2⟩ := Ac7 (p := p) (x := x) (by simpa using hE)
  simp only [fx, Nat.reduceAdd, forall_const, Ar hs.p2.blk, Ad hs.p2.blk, Ae hs.p2.blk, Ac hs.p2.blk, Ag hs.p2.blk, Ah hs.p2.blk, (hr.fr hs.fr0).len]
  rw [Aj]
  refine ⟨fun h => ?_, fun h => ?_⟩
  · have h : 32 ≤ x.l.length := by simp at h; omega
    rw [Ce]
    refine AJ hs (AD rfl) fun w5 hs => ?_
    simp only [Ar hs.blk, Ad hs.blk, Ae hs.blk, Ac hs.blk, Ag hs.blk, Ah hs.blk]
    exact hzero (by rw [addM, if_neg hE, if_neg hpl, if_pos h]) hs.d1.d1.d1
  have h32 : ¬ 32 ≤ x.l.length := by simp at h; omega
  refine Af (GZ (hr.fr hs.fr0) hl h1) ?_
  rintro _ w7 ⟨v', rfl, hs7⟩
  replace hs7 := hs.join hs7
  refine Av hs7 (Bo w7) fun g5 w8 hs8 => ?_
  refine AJ hs8 (AD (Sep.oneR hs7)) fun w8 hs8 => ?_
  simp only [fx, Nat.reduceAdd, forall_const, Ar hs8.blk, Ad hs8.blk, Ae hs8.blk, Ac hs8.blk, Ag hs8.blk, Ah hs8.blk, Ai hs8.p3.blk, Hk]
  refine CQ (q := Ab) (l := [((id, 0) : Cho)]) (V := fun c => .agg (Rdr.cells Ab c).toArray) hs8 CR (fun a => rfl) rfl rfl (by decide) (by decide) fun g9 w9 hs9 => ?_
  refine BX (q := Ab) CR E5 (by simp) hs9.p2 (Sep.rows hs9) (PV _) (by simp; omega) (by simp; omega) fun v'' w10 hs10 => ?_
  refine Ep hs10.p2 hs10.oneR fun w11 hs11 => ?_
  simp only [Ar hs11.blk, Ad hs11.blk, Ae hs11.blk, Ac hs11.blk, Ag hs11.blk, Ah hs11.blk]
  refine AJ hs11.p3 (AD hs10.oneR) fun w12 hs12 => ?_
  simp only [Ar hs12.blk, Ad hs12.blk, Ae hs12.blk, Ac hs12.blk, Ag hs12.blk, Ah hs12.blk]
  have ha : addM p x id = ({ x with l := x.l ++ [(id, 0)] }, 0) := by rw [addM, if_neg hE, if_neg hpl, if_neg h32]
  exact hR _ _ ⟨v'', by rw [ha], by rw [ha]; exact hs12.p2.d1.d1.d1.d1.d1.d1⟩
theorem Tn (hr : AB Ab w.heap v x.l) (hl : x.l.length ≤ 1000000) (h1 : v.oneCell' = true) : cal P JC [pav p, snv v x] w fun r w' => SnQ (BC p x) w r w' := by
  refine Acu fun R hR => ?_
  unfold Tb
  refine bx_s (Sep.start w) fun g w1 hs => ?_
  refine bx_s hs fun g2 w2 hs => ?_
  simp only [Value.cells] at hs
  refine Av hs (Bo w2) fun g4 w4 hs => ?_
  simp only [fx, Nat.reduceAdd, forall_const, Bi hs.p2.blk, AW hs.p2.blk, AG hs.p2.blk, AH hs.p2.blk, AQ hs.p2.blk, Ar hs.p1.blk, Ad hs.p1.blk, Ae hs.p1.blk, Ac hs.p1.blk, Ag hs.p1.blk, Ah hs.p1.blk]
  refine Af (Lu (hr.fr hs.fr0) (by omega)) ?_
  rintro _ w5 ⟨rfl, hf5⟩
  replace hs := hs.old hf5
  simp only [fx, Nat.reduceAdd, forall_const]
  rw [Aj]
  refine ⟨fun h => ?_, fun h => ?_⟩
  · have h : snE p x ≠ 0 := by simpa using h
    rw [Ce]
    refine AJ hs (AD rfl) fun w5 hs => ?_
    simp only [Ar hs.blk, Ad hs.blk, Ae hs.blk, Ac hs.blk, Ag hs.blk, Ah hs.blk]
    have he : BC p x = (snZ, snE p x) := by rw [BC, if_pos h]
    exact hR _ _ ⟨.slice none 0 0, by rw [he]; rfl, by rw [he]; exact (Sep.nilR hs.d1.d1).d1⟩
  have hE : ¬ snE p x ≠ 0 := by simpa using h
  simp only [Ar hs.p1.blk, Ad hs.p1.blk, Ae hs.p1.blk, Ac hs.p1.blk, Ag hs.p1.blk, Ah hs.p1.blk]
  refine Af (Of (hr.fr hs.fr0) hl h1) ?_
  rintro _ w7 ⟨v', rfl, hs7⟩
  replace hs7 := hs.join hs7
  refine AJ (Sep.p2 hs7) (AD (Sep.oneR hs7)) fun w8 hs8 => ?_
  have ha : BC p x = (if x.dn then x else { x with conf := 0 }, 0) := by rw [BC, if_neg hE]
  refine ⟨fun w' => Sep w w' [blk g2 (Rdr.cells Aq (snr v' (BC p x).1)).toArray Ak, rows Ab v' x.l, blk g4 (Rdr.cells Aq (.slice none 0 0, vz 32, vz 32, 0, false)).toArray Ak], ?_, ?_⟩
  · simp only [fx, Nat.reduceAdd, forall_const, Ar hs8.blk, Ad hs8.blk, Ae hs8.blk, Ac hs8.blk, Ag hs8.blk, Ah hs8.blk]
    rw [Aj]
    refine ⟨fun h => ?_, fun h => ?_⟩
    · have h : x.dn = false := by simpa using h
      refine DR hs8 fun w9 hs9 => ?_
      have he : (BC p x).1 = { x with conf := 0 } := by rw [ha]; simp [h]
      rw [he]
      exact hs9.d3
    · have h : x.dn = true := by simpa using h
      have he : (BC p x).1 = x := by rw [ha]; simp [h]
      rw [he]
      exact hs8.d3
  · intro w9 hs9 _
    simp only [Ar hs9.blk, Ad hs9.blk, Ae hs9.blk, Ac hs9.blk, Ag hs9.blk, Ah hs9.blk]
    refine AJ hs9.p2 (AD (Sep.oneR hs9.p1)) fun w12 hs12 => ?_
    simp only [Ar hs12.blk, Ad hs12.blk, Ae hs12.blk, Ac hs12.blk, Ag hs12.blk, Ah hs12.blk]
    have hl2 : (BC p x).1.l = x.l := by rw [ha]; cases x.dn <;> rfl
    exact hR _ _ ⟨v', by rw [ha], by rw [hl2]; exact hs12.p2.d1.d1⟩
theorem TA (hp : PaOk p) (hr : AB Ab w.heap v x.l) (hl : x.l.length ≤ 1000000) (h1 : v.oneCell' = true) : cal P I1 [pav p, snv v x] w fun r w' => SnQ (BC p x) w r w' := by
  refine Aac fun R hR => ?_
  unfold Rt
  refine bx_s (Sep.start w) fun g w1 hs => ?_
  refine bx_s hs fun g2 w2 hs => ?_
  simp only [Value.cells] at hs
  refine Av hs (Bo w2) fun g4 w4 hs => ?_
  simp only [fx, Nat.reduceAdd, forall_const, Bi hs.p2.blk, AW hs.p2.blk, AG hs.p2.blk, AH hs.p2.blk, AQ hs.p2.blk, Ar hs.p1.blk, Ad hs.p1.blk, Ae hs.p1.blk, Ac hs.p1.blk, Ag hs.p1.blk, Ah hs.p1.blk]
  refine Af (IN hp (hr.fr hs.fr0) (by omega)) ?_
  rintro _ w5 ⟨rfl, hf5⟩
  replace hs := hs.old hf5
  simp only [fx, Nat.reduceAdd, forall_const]
  rw [Aj]
  refine ⟨fun h => ?_, fun h => ?_⟩
  · have h : snE p x ≠ 0 := by simpa using h
    rw [Ce]
    refine AJ hs (AD rfl) fun w5 hs => ?_
    simp only [Ar hs.blk, Ad hs.blk, Ae hs.blk, Ac hs.blk, Ag hs.blk, Ah hs.blk]
    have he : BC p x = (snZ, snE p x) := by rw [BC, if_pos h]
    exact hR _ _ ⟨.slice none 0 0, by rw [he]; rfl, by rw [he]; exact (Sep.nilR hs.d1.d1).d1⟩
  have hE : ¬ snE p x ≠ 0 := by simpa using h
  simp only [Ar hs.p1.blk, Ad hs.p1.blk, Ae hs.p1.blk, Ac hs.p1.blk, Ag hs.p1.blk, Ah hs.p1.blk]
  refine Af (GZ (hr.fr hs.fr0) hl h1) ?_
  rintro _ w7 ⟨v', rfl, hs7⟩
  replace hs7 := hs.join hs7
  refine Av hs7 (Bo w7) fun g5 w8 hs8 => ?_
  refine AJ hs8 (AD (Sep.oneR hs7)) fun w8 hs8 => ?_
  have ha : BC p x = (if x.dn then x else { x with conf := 0 }, 0) := by rw [BC, if_neg hE]
  refine ⟨fun w' => Sep w w' [blk g5 (Rdr.cells Aq (snr v' (BC p x).1)).toArray Ak, rows Ab v' x.l, blk g4 (Rdr.cells Aq (.slice none 0 0, vz 32, vz 32, 0, false)).toArray Ak], ?_, ?_⟩
  · simp only [fx, Nat.reduceAdd, forall_const, Ar hs8.blk, Ad hs8.blk, Ae hs8.blk, Ac hs8.blk, Ag hs8.blk, Ah hs8.blk]
    rw [Aj]
    refine ⟨fun h => ?_, fun h => ?_⟩
    · have h : x.dn = false := by simpa using h
      refine DR hs8 fun w9 hs9 => ?_
      have he : (BC p x).1 = { x with conf := 0 } := by rw [ha]; simp [h]
      rw [he]
      exact hs9.d4.d3
    · have h : x.dn = true := by simpa using h
      have he : (BC p x).1 = x := by rw [ha]; simp [h]
      rw [he]
      exact hs8.d4.d3
  · intro w9 hs9 _
    simp only [Ar hs9.blk, Ad hs9.blk, Ae hs9.blk, Ac hs9.blk, Ag hs9.blk, Ah hs9.blk]
    refine AJ hs9.p2 (AD (Sep.oneR hs9.p1)) fun w12 hs12 => ?_
    simp only [Ar hs12.blk, Ad hs12.blk, Ae hs12.blk, Ac hs12.blk, Ag hs12.blk, Ah hs12.blk]
    have hl2 : (BC p x).1.l = x.l := by rw [ha]; cases x.dn <;> rfl
    exact hR _ _ ⟨v', by rw [ha], by rw [hl2]; exact hs12.p2.d1.d1⟩
end
end Go.Fx
namespace Go.Fx
def updM (x : Sn) (id : Id) (k : Nat) (c : Cho) : Sn :=
  { x with l := x.l.set k (c.1, min (c.2 + 1) 1073741824), pref := if Dm { x with l := x.l.set k (c.1, min (c.2 + 1) 1073741824) } < min (c.2 + 1) 1073741824 then id else x.pref, flake := id }
def cfM (p : Par) (x : Sn) (id : Id) (n : Int) : Int := if n < p.2.2.1 then 0 else if id = x.flake then x.conf + 1 else 1
noncomputable def B1 (p : Par) (x : Sn) (id : Id) (n : Int) : Sn × Int :=
  if snE p x ≠ 0 then (snZ, snE p x) else if n < 0 ∨ p.1 < n then (snZ, 1) else if plc x.l id < 0 then (snZ, 4) else if x.dn then (x, 0) else if n < p.2.1 then ({ x with conf := 0 }, 0) else
  ({ updM x id (plc x.l id).toNat ((x.l[(plc x.l id).toNat]?).getD (id, 0)) with conf := cfM p x id n, dn := decide (cfM p x id n = p.2.2.2) }, 0)
theorem TG {p : Par} {x : Sn} (h : snE p x = 0) : parE p = 0 ∧ ¬ Cy p x ∧ ∀ i c, x.l[i]? = some c → Eb x c i = true := by
  by_cases h1 : parE p ≠ 0
  · rw [Xg h1] at h; exact absurd h h1
  · have h1 : parE p = 0 := by simpa using h1
    by_cases h2 : Cy p x
    · rw [TF h1 h2] at h; cases h
    · refine ⟨h1, h2, fun i c hc => ?_⟩
      cases hg : Eb x c i with
      | true => rfl
      | false => rw [Xq h1 hc hg] at h; cases h
theorem EZ {p : Par} (h : parE p = 0) : 1 ≤ p.1 ∧ p.1 ≤ 64 ∧ p.1 / 2 < p.2.1 ∧ p.2.1 ≤ p.2.2.1 ∧ p.2.2.1 ≤ p.1 ∧ 1 ≤ p.2.2.2 ∧ p.2.2.2 ≤ 1000 := by
  unfold parE at h
  split at h
  · cases h
  · omega
theorem Og {p : Par} {x : Sn} {id : Id} {n : Int} {k : Nat} {c : Cho} (hE : snE p x = 0) (hn : ¬ (n < 0 ∨ p.1 < n)) (hk : plc x.l id = (k : Int)) (hc : x.l[k]? = some c) (hd : x.dn = false) (hap : ¬ n < p.2.1) :
    B1 p x id n = ({ updM x id k c with conf := cfM p x id n, dn := decide (cfM p x id n = p.2.2.2) }, 0) := by
  rw [B1, if_neg (by simpa using hE), if_neg hn, if_neg (by omega), if_neg (by simp [hd]), if_neg hap, hk, Int.toNat_natCast, hc]
  rfl
theorem RE {l : List Cho} {k : Nat} {c : Cho} {s : Int} (hc : l[k]? = some c) (id : Id) : plc (l.set k (c.1, s)) id = plc l id := by
  have hlt := (List.getElem?_eq_some_iff.1 hc).1
  have hget : ∀ (j : Nat) (d : Cho), (l.set k (c.1, s))[j]? = some d → ∃ d', l[j]? = some d' ∧ d'.1 = d.1 := fun j d hd => by
    by_cases hjk : k = j
    · subst hjk
      rw [List.getElem?_set_self hlt] at hd
      cases hd
      exact ⟨c, hc, rfl⟩
    · rw [List.getElem?_set_ne hjk] at hd
      exact ⟨d, hd, rfl⟩
  have hback : ∀ (j : Nat) (d : Cho), l[j]? = some d → ∃ d', (l.set k (c.1, s))[j]? = some d' ∧ d'.1 = d.1 := fun j d hd => by
    by_cases hjk : k = j
    · subst hjk
      rw [hc] at hd
      cases hd
      exact ⟨_, List.getElem?_set_self hlt, rfl⟩
    · exact ⟨d, by rw [List.getElem?_set_ne hjk]; exact hd, rfl⟩
  rcases Ex l id with ⟨h1, h2⟩ | ⟨i, d, h1, h2, h3, h4⟩
  · rw [h1, Un fun j d hd => ?_]
    obtain ⟨d', hd', he⟩ := hget j d hd
    rw [← he]
    exact h2 j d' hd'
  · obtain ⟨d', hd', he⟩ := hback i d h2
    rw [h1, LO hd' (he.trans h3) fun j e hj hj' => ?_]
    obtain ⟨e', he', hee⟩ := hget j e hj'
    rw [← hee]
    exact h4 j e' hj he'
section
variable {w : World} {v u : Value} {x y : Sn} {p : Par} {id : Id} {n : Int}
theorem Aaj : cal P Lk [pav p, .int .i64 n] w fun r w' => r = .int .i64 (if p.2.2.1 ≤ n then 2 else if p.2.1 ≤ n then 1 else 0) ∧ Fr [] w w' := by
  refine AbC fun R hR => ?_
  unfold Q7
  refine bx_s (Sep.start w) fun g w1 hs => ?_
  simp only [Value.cells] at hs
  simp only [fx, Nat.reduceAdd, forall_const, Bi hs.blk, AW hs.blk, AG hs.blk, AH hs.blk, AQ hs.blk]
  rw [Aj]
  refine ⟨fun h => ?_, fun h => ?_⟩
  · exact hR _ _ ⟨by rw [if_pos (by simpa using h)], hs.fr0⟩
  · rw [Aj]
    refine ⟨fun h2 => ?_, fun h2 => ?_⟩
    · exact hR _ _ ⟨by rw [if_neg (by simpa using h), if_pos (by simpa using h2)], hs.fr0⟩
    · exact hR _ _ ⟨by rw [if_neg (by simpa using h), if_neg (by simpa using h2)], hs.fr0⟩
theorem Tp (hr : AB Ab w.heap v x.l) (hl : x.l.length ≤ 1000000) (h1 : v.oneCell' = true) : cal P JH [pav p, snv v x, idv id, .int .i64 n] w fun r w' => SnQ (B1 p x id n) w r w' := by
  refine AcP fun R hR => ?_
  unfold Tf
  refine bx_s (Sep.start w) fun g1 w1 hs => ?_
  refine bx_s hs fun g2 w2 hs => ?_
  refine bx_s hs fun g3 w3 hs => ?_
  simp only [Value.cells] at hs
  refine Av hs (Bo w3) fun g4 w4 hs => ?_
  simp only [fx, Nat.reduceAdd, forall_const, Bi hs.p3.blk, AW hs.p3.blk, AG hs.p3.blk, AH hs.p3.blk, AQ hs.p3.blk, Ar hs.p2.blk, Ad hs.p2.blk, Ae hs.p2.blk, Ac hs.p2.blk, Ag hs.p2.blk, Ah hs.p2.blk]
  refine Af (Lu (hr.fr hs.fr0) (by omega)) ?_
  rintro _ w5 ⟨rfl, hf5⟩
  replace hs := hs.old hf5
  have hzero : ∀ {w' : World} {e : Int}, (B1 p x id n) = (snZ, e) → Sep w w' [blk g4 (Rdr.cells Aq (.slice none 0 0, vz 32, vz 32, 0, false)).toArray Ak] → R (.tuple #[snv (.slice none 0 0) snZ, .int .i64 e]) w' := fun he hs' =>
    hR _ _ ⟨.slice none 0 0, by rw [he], by rw [he]; exact (Sep.nilR hs').d1⟩
  simp only [fx, Nat.reduceAdd, forall_const]
  rw [Aj]
  refine ⟨fun h => ?_, fun h => ?_⟩
  · have h : snE p x ≠ 0 := by simpa using h
    rw [Ce]
    refine AJ hs (AD rfl) fun w5 hs => ?_
    simp only [Ar hs.blk, Ad hs.blk, Ae hs.blk, Ac hs.blk, Ag hs.blk, Ah hs.blk]
    exact hzero (by rw [B1, if_pos h]) hs.d1.d1.d1
  have hE : snE p x = 0 := by simpa using h
  have hE' : ¬ snE p x ≠ 0 := by simpa using h
  simp only [fx, Nat.reduceAdd, forall_const, Bi hs.p3.blk, AW hs.p3.blk, AG hs.p3.blk, AH hs.p3.blk, AQ hs.p3.blk]
  rw [Aj]
  refine ⟨fun h => ?_, fun h => ?_⟩
  · have h : n < 0 ∨ p.1 < n := by simpa using h
    rw [Ce]
    refine AJ hs (AD rfl) fun w5 hs => ?_
    simp only [Ar hs.blk, Ad hs.blk, Ae hs.blk, Ac hs.blk, Ag hs.blk, Ah hs.blk]
    exact hzero (by rw [B1, if_neg hE', if_pos h]) hs.d1.d1.d1
  have hn : ¬ (n < 0 ∨ p.1 < n) := by simpa using h
  simp only [Ar hs.p2.blk, Ad hs.p2.blk, Ae hs.p2.blk, Ac hs.p2.blk, Ag hs.p2.blk, Ah hs.p2.blk, Ai hs.p1.blk]
  refine Af (Fu (hr.fr hs.fr0) (by omega)) ?_
  rintro _ w6 ⟨rfl, hf6⟩
  replace hs := hs.old hf6
  simp only [fx, Nat.reduceAdd, forall_const]
  rw [Aj]
  refine ⟨fun h => ?_, fun h => ?_⟩
  · have h : plc x.l id < 0 := by simpa using h
    rw [Ce]
    refine AJ hs (AD rfl) fun w5 hs => ?_
    simp only [Ar hs.blk, Ad hs.blk, Ae hs.blk, Ac hs.blk, Ag hs.blk, Ah hs.blk]
    exact hzero (by rw [B1, if_neg hE', if_neg hn, if_pos h]) hs.d1.d1.d1
  have hpl : ¬ plc x.l id < 0 := by simpa using h
  obtain ⟨k, c, hk, hc, hcid, _⟩ : ∃ i c, plc x.l id = ((i : Nat) : Int) ∧ x.l[i]? = some c ∧ c.1 = id ∧ ∀ (j : Nat) (d : Cho), j < i → x.l[j]? = some d → d.1 ≠ id := by
    rcases Ex x.l id with ⟨h1, _⟩ | h1
    · omega
    · exact h1
  have hklt := (List.getElem?_eq_some_iff.1 hc).1
  obtain ⟨hpar, hhead, hgood⟩ := TG hE
  obtain ⟨q1, q2, q3, q4, q5, q6, q7⟩ := EZ hpar
  have hcg := hgood k c hc
  simp [Eb] at hcg
  simp only [Ar hs.p2.blk, Ad hs.p2.blk, Ae hs.p2.blk, Ac hs.p2.blk, Ag hs.p2.blk, Ah hs.p2.blk]
  refine Af (Of (hr.fr hs.fr0) hl h1) ?_
  rintro _ w7 ⟨v', rfl, hs7⟩
  replace hs7 := hs.join hs7
  have hv' := Sep.oneR hs7
  refine AJ (Sep.p3 hs7) (AD hv') fun w8 hs8 => ?_
  simp only [fx, Nat.reduceAdd, forall_const, Ar hs8.blk, Ad hs8.blk, Ae hs8.blk, Ac hs8.blk, Ag hs8.blk, Ah hs8.blk]
  rw [Aj]
  refine ⟨fun hd => ?_, fun hd => ?_⟩
  · have he : B1 p x id n = (x, 0) := by rw [B1, if_neg hE', if_neg hn, if_neg hpl, if_pos hd]
    refine AJ hs8.p2 (AD hv') fun w9 hs9 => ?_
    simp only [Ar hs9.blk, Ad hs9.blk, Ae hs9.blk, Ac hs9.blk, Ag hs9.blk, Ah hs9.blk]
    exact hR _ _ ⟨v', by rw [he], by rw [he]; exact hs9.p2.d1.d1.d1.d1⟩
  have hd : x.dn = false := hd
  simp only [Bi hs8.p4.blk, AW hs8.p4.blk, AG hs8.p4.blk, AH hs8.p4.blk, AQ hs8.p4.blk]
  refine Af Aaj ?_
  rintro _ w9 ⟨rfl, hf9⟩
  have hs9 := hs8.old hf9
  refine ⟨fun y w' => ∃ (x' : Sn) (cf : Int), y = .int .i64 cf ∧ B1 p x id n = ({ x' with conf := cf, dn := decide (cf = p.2.2.2) }, 0) ∧
    Sep w w' [blk g2 (Rdr.cells Aq (snr v' x')).toArray Ak, rows Ab v' x'.l, blk g4 (Rdr.cells Aq (.slice none 0 0, vz 32, vz 32, 0, false)).toArray Ak, blk g1 (Rdr.cells AK p).toArray AZ], ?_, ?_⟩
  · -- up to the join
    refine ⟨fun y w' => ¬ n < p.2.1 ∧ y = .int .i64 (cfM p x id n) ∧ Sep w w' [blk g2 (Rdr.cells Aq (snr v' x)).toArray Ak, rows Ab v' x.l, blk g4 (Rdr.cells Aq (.slice none 0 0, vz 32, vz 32, 0, false)).toArray Ak, blk g3 (Rdr.cells (rVec 32) id).toArray Aa, blk g1 (Rdr.cells AK p).toArray AZ], ?_, ?_⟩
    · simp only [fx, Nat.reduceAdd, forall_const]
      by_cases hac : p.2.2.1 ≤ n
      · rw [if_pos hac]
        simp only [fx, Nat.reduceAdd, forall_const, show ((2 : Int) == 2) = true from rfl, Ai hs9.p3.blk, Ar hs9.blk, Ad hs9.blk, Ae hs9.blk, Ac hs9.blk, Ag hs9.blk, Ah hs9.blk, B3]
        rw [Aj]
        unfold Cy at hhead
        refine ⟨fun h => ?_, fun h => ?_⟩
        · have h : id = x.flake := by simpa using h
          rw [wi64 (by omega) (by omega)]
          exact ⟨by omega, by rw [cfM, if_neg (by omega), if_pos h], hs9⟩
        · have h : ¬ id = x.flake := by simpa using h
          exact ⟨by omega, by rw [cfM, if_neg (by omega), if_neg h], hs9⟩
      · rw [if_neg hac]
        by_cases hap : p.2.1 ≤ n
        · rw [if_pos hap]
          simp only [fx, Nat.reduceAdd, forall_const, show ((1 : Int) == 2) = false from rfl, show ((1 : Int) == 1) = true from rfl]
          exact ⟨by omega, by rw [cfM, if_pos (by omega)], hs9⟩
        · rw [if_neg hap]
          simp only [fx, Nat.reduceAdd, forall_const, show ((0 : Int) == 2) = false from rfl, show ((0 : Int) == 1) = false from rfl]
          refine ⟨x, 0, rfl, ?_, hs9.d3⟩
          rw [B1, if_neg hE', if_neg hn, if_neg hpl, if_neg (by simp [hd]), if_pos (by omega)]
          have : decide ((0 : Int) = p.2.2.2) = false := by simp; omega
          rw [this, hd]
    · rintro _ w10 ⟨hap, rfl, hs10⟩ -
      obtain ⟨a0, c0, hvf, _⟩ := (Sep.p1 hs10).formR
      obtain ⟨g, o, hao⟩ : ∃ g o, a0 = some ⟨g, o, none⟩ := by
        obtain ⟨g, o, c', hf⟩ := (Sep.rows hs10.p1).form (by decide) hc
        rw [hvf] at hf
        cases hf
        exact ⟨g, o, rfl⟩
      subst hvf; subst hao
      simp only [fx, Nat.reduceAdd, forall_const, Ar hs10.blk, Ad hs10.blk, Ae hs10.blk, Ac hs10.blk, Ag hs10.blk, Ah hs10.blk, hk]
      rw [DJ _ _ _ _ _ _ _ _ (by omega) (by omega), Int.toNat_natCast]
      have hat := At.of (q := Ab) (by decide) (Sep.rows hs10.p1) hc
      have hat' : At w10.heap g (o + k * 33) (Rdr.cells Ab c) := hat
      simp only [fx, Nat.reduceAdd, forall_const, C7 hat', RV]
      rw [wi64 (by omega) (by omega)]
      have hmin : min (c.2 + 1) 1073741824 ≤ 1073741824 := by omega
      refine Z0 (q := Ab) (s := rInt .i64) (b := min (c.2 + 1) 1073741824) (.snd .self) rfl hs10.p1 hc rfl rfl fun w11 hs11 => ?_
      have hset : (x.l.set k (c.1, min (c.2 + 1) 1073741824))[k]? = some (c.1, min (c.2 + 1) 1073741824) := List.getElem?_set_self hklt
      generalize hx1 : ({ x with l := x.l.set k (c.1, min (c.2 + 1) 1073741824) } : Sn) = x1 at *
      have hl1 : x1.l = x.l.set k (c.1, min (c.2 + 1) 1073741824) := by rw [← hx1]
      have hsn : ∀ z, snr z x = snr z x1 := fun z => by rw [← hx1]
      have hll : x1.l.length = x.l.length := by rw [hl1]; simp
      have hs11 : Sep w w11 [rows Ab (.slice (some ⟨g, o, none⟩) x.l.length c0) x1.l, blk g2 (Rdr.cells Aq (snr (.slice (some ⟨g, o, none⟩) x.l.length c0) x1)).toArray Ak, blk g4 (Rdr.cells Aq (.slice none 0 0, vz 32, vz 32, 0, false)).toArray Ak, blk g3 (Rdr.cells (rVec 32) id).toArray Aa, blk g1 (Rdr.cells AK p).toArray AZ] := by
        rw [hl1, ← hsn]; exact hs11
      have hpp : plc x1.l x1.pref = plc x.l x.pref := by rw [hl1, RE hc, ← hx1]
      obtain ⟨i0, d0, hpl0, hd0, _, _⟩ : ∃ i d, plc x1.l x1.pref = ((i : Nat) : Int) ∧ x1.l[i]? = some d ∧ d.1 = x1.pref ∧ ∀ (j : Nat) (d : Cho), j < i → x1.l[j]? = some d → d.1 ≠ x1.pref := by
        rcases Ex x1.l x1.pref with ⟨h1, _⟩ | h1
        · exfalso
          rw [hpp] at h1
          unfold Cy at hhead
          omega
        · exact h1
      have hbest : Dm x1 = d0.2 := by rw [Dm, hpl0, Int.toNat_natCast, hd0]; rfl
      refine ⟨fun w' => Sep w w' [blk g2 (Rdr.cells Aq (snr (.slice (some ⟨g, o, none⟩) x.l.length c0) { x1 with pref := if Dm x1 < min (c.2 + 1) 1073741824 then id else x1.pref })).toArray Ak, rows Ab (.slice (some ⟨g, o, none⟩) x.l.length c0) x1.l, blk g4 (Rdr.cells Aq (.slice none 0 0, vz 32, vz 32, 0, false)).toArray Ak, blk g3 (Rdr.cells (rVec 32) id).toArray Aa, blk g1 (Rdr.cells AK p).toArray AZ], ?_, ?_⟩
      · refine A0 hs11 fun w12 hs12 _ => ?_
        have hatS : ∀ u, Sep w u [rows Ab (.slice (some ⟨g, o, none⟩) x.l.length c0) x1.l, blk g2 (Rdr.cells Aq (snr (.slice (some ⟨g, o, none⟩) x.l.length c0) x1)).toArray Ak, blk g4 (Rdr.cells Aq (.slice none 0 0, vz 32, vz 32, 0, false)).toArray Ak, blk g3 (Rdr.cells (rVec 32) id).toArray Aa, blk g1 (Rdr.cells AK p).toArray AZ] →
            At u.heap g (o + k * 33) (Rdr.cells Ab (c.1, min (c.2 + 1) 1073741824)) := fun u hu => At.of (q := Ab) (by decide) (Sep.rows hu) (by rw [hl1]; exact hset)
        refine ⟨.int .i64 (min (c.2 + 1) 1073741824), fun u hu => ?_, ?_⟩
        · show ld1 _ u.heap _
          rw [C7 (hatS u hu)]
        refine ⟨.slice (some ⟨g, o, none⟩) x.l.length c0, fun u hu => ?_, ?_⟩
        · show ld1 _ u.heap _
          rw [Ad (Sep.p1 hu).blk]
        refine ⟨snv (.slice (some ⟨g, o, none⟩) x.l.length c0) x1, fun u hu => ?_, ?_⟩
        · show ldN 67 _ u.heap _
          rw [Ar (Sep.p1 hu).blk]
        refine ⟨idv x1.pref, fun u hu => ?_, ?_⟩
        · show ldN 32 _ u.heap _
          rw [Ae (Sep.p1 hu).blk]
        refine AL (Af (Fu (Sep.rows hs12) (by omega)) ?_)
        rintro _ w13 ⟨rfl, hf13⟩
        have hs13 := hs12.old hf13
        refine ⟨hs13, ?_⟩
        rw [hpl0]
        refine WS (q := Ab) (.snd .self) rfl (by decide) hs13 (fun u hu => Sep.rows hu) hd0 .i64 ?_
        simp only [fx, Nat.reduceAdd, forall_const]
        rw [← hbest, Aj]
        refine ⟨fun h => ?_, fun h => ?_⟩
        · simp only [Ai hs13.p3.blk]
          refine KM hs13.p1 Ca fun w14 hs14 => ?_
          rw [if_pos (by simpa using h)]
          exact hs14
        · rw [if_neg (by simpa using h)]
          exact hs13.p1
      · intro w12 hs12 _
        simp only [Ai hs12.p3.blk]
        refine J7 hs12 Ca fun w13 hs13 => ?_
        refine ⟨updM x id k c, _, rfl, ?_, ?_⟩
        · exact Og hE hn hk hc hd hap
        · have hu : updM x id k c = { x1 with pref := if Dm x1 < min (c.2 + 1) 1073741824 then id else x1.pref, flake := id } := by
            unfold updM
            rw [hx1, ← hx1]
          rw [hu]
          exact hs13.d3
  · rintro _ w10 ⟨x', cf, rfl, he, hs10⟩ -
    refine DR hs10 fun w11 hs11 => ?_
    simp only [fx, Nat.reduceAdd, forall_const, Bi hs11.p3.blk, AW hs11.p3.blk, AG hs11.p3.blk, AH hs11.p3.blk, AQ hs11.p3.blk]
    refine KH hs11 fun w12 hs12 => ?_
    simp only [Ar hs12.blk, Ad hs12.blk, Ae hs12.blk, Ac hs12.blk, Ag hs12.blk, Ah hs12.blk]
    refine AJ hs12.p2 (AD hs12.p1.oneR) fun w13 hs13 => ?_
    simp only [Ar hs13.blk, Ad hs13.blk, Ae hs13.blk, Ac hs13.blk, Ag hs13.blk, Ah hs13.blk]
    refine hR _ _ ⟨v', ?_, ?_⟩
    · rw [he, RQ]
    · rw [he]; exact hs13.p2.d1.d1.d1
end
end Go.Fx
namespace Go.Fx
section
variable {w : World} {v u : Value} {x y : Sn} {p : Par} {id : Id} {n : Int}
theorem Ab4 (hp : PaOk p) (hr : AB Ab w.heap v x.l) (hl : x.l.length ≤ 1000000) (h1 : v.oneCell' = true) : cal P LI [pav p, snv v x, idv id, .int .i64 n] w fun r w' => SnQ (B1 p x id n) w r w' := by
  refine ZQ fun R hR => ?_
  unfold Qh
  refine bx_s (Sep.start w) fun g1 w1 hs => ?_
  refine bx_s hs fun g2 w2 hs => ?_
  refine bx_s hs fun g3 w3 hs => ?_
  simp only [Value.cells] at hs
  refine Av hs (Bo w3) fun g4 w4 hs => ?_
  simp only [fx, Nat.reduceAdd, forall_const, Bi hs.p3.blk, AW hs.p3.blk, AG hs.p3.blk, AH hs.p3.blk, AQ hs.p3.blk, Ar hs.p2.blk, Ad hs.p2.blk, Ae hs.p2.blk, Ac hs.p2.blk, Ag hs.p2.blk, Ah hs.p2.blk]
  refine Af (IN hp (hr.fr hs.fr0) (by omega)) ?_
  rintro _ w5 ⟨rfl, hf5⟩
  replace hs := hs.old hf5
  have hzero : ∀ {w' : World} {e : Int}, (B1 p x id n) = (snZ, e) → Sep w w' [blk g4 (Rdr.cells Aq (.slice none 0 0, vz 32, vz 32, 0, false)).toArray Ak] → R (.tuple #[snv (.slice none 0 0) snZ, .int .i64 e]) w' := fun he hs' =>
    hR _ _ ⟨.slice none 0 0, by rw [he], by rw [he]; exact (Sep.nilR hs').d1⟩
  simp only [fx, Nat.reduceAdd, forall_const]
  rw [Aj]
  refine ⟨fun h => ?_, fun h => ?_⟩
  · have h : snE p x ≠ 0 := by simpa using h
    rw [Ce]
    refine AJ hs (AD rfl) fun w5 hs => ?_
    simp only [Ar hs.blk, Ad hs.blk, Ae hs.blk, Ac hs.blk, Ag hs.blk, Ah hs.blk]
    exact hzero (by rw [B1, if_pos h]) hs.d1.d1.d1
  have hE : snE p x = 0 := by simpa using h
  have hE' : ¬ snE p x ≠ 0 := by simpa using h
  simp only [fx, Nat.reduceAdd, forall_const, Bi hs.p3.blk, AW hs.p3.blk, AG hs.p3.blk, AH hs.p3.blk, AQ hs.p3.blk]
  rw [Aj]
  refine ⟨fun h => ?_, fun h => ?_⟩
  · have h : n < 0 ∨ p.1 < n := by simpa using h
    rw [Ce]
    refine AJ hs (AD rfl) fun w5 hs => ?_
    simp only [Ar hs.blk, Ad hs.blk, Ae hs.blk, Ac hs.blk, Ag hs.blk, Ah hs.blk]
    exact hzero (by rw [B1, if_neg hE', if_pos h]) hs.d1.d1.d1
  have hn : ¬ (n < 0 ∨ p.1 < n) := by simpa using h
  simp only [Ar hs.p2.blk, Ad hs.p2.blk, Ae hs.p2.blk, Ac hs.p2.blk, Ag hs.p2.blk, Ah hs.p2.blk, Ai hs.p1.blk]
  refine Af (EK (hr.fr hs.fr0) (by omega)) ?_
  rintro _ w6 ⟨rfl, hf6⟩
  replace hs := hs.old hf6
  simp only [fx, Nat.reduceAdd, forall_const]
  rw [Aj]
  refine ⟨fun h => ?_, fun h => ?_⟩
  · have h : plc x.l id < 0 := by simpa using h
    rw [Ce]
    refine AJ hs (AD rfl) fun w5 hs => ?_
    simp only [Ar hs.blk, Ad hs.blk, Ae hs.blk, Ac hs.blk, Ag hs.blk, Ah hs.blk]
    exact hzero (by rw [B1, if_neg hE', if_neg hn, if_pos h]) hs.d1.d1.d1
  have hpl : ¬ plc x.l id < 0 := by simpa using h
  obtain ⟨k, c, hk, hc, hcid, _⟩ : ∃ i c, plc x.l id = ((i : Nat) : Int) ∧ x.l[i]? = some c ∧ c.1 = id ∧ ∀ (j : Nat) (d : Cho), j < i → x.l[j]? = some d → d.1 ≠ id := by
    rcases Ex x.l id with ⟨h1, _⟩ | h1
    · omega
    · exact h1
  have hklt := (List.getElem?_eq_some_iff.1 hc).1
  obtain ⟨hpar, hhead, hgood⟩ := TG hE
  obtain ⟨q1, q2, q3, q4, q5, q6, q7⟩ := EZ hpar
  have hcg := hgood k c hc
  simp [Eb] at hcg
  simp only [fx, Nat.reduceAdd, forall_const, Ar hs.p2.blk, Ad hs.p2.blk, Ae hs.p2.blk, Ac hs.p2.blk, Ag hs.p2.blk, Ah hs.p2.blk, Bi hs.p3.blk, AW hs.p3.blk, AG hs.p3.blk, AH hs.p3.blk, AQ hs.p3.blk]
  rw [Aj]
  refine ⟨fun h => ?_, fun h => ?_⟩
  · have h : x.dn = true ∨ n < p.2.1 := by simpa using h
    refine Af (TA hp (hr.fr hs.fr0) hl h1) ?_
    rintro _ w7 ⟨v', rfl, hs7⟩
    replace hs7 := hs.join hs7
    simp only [fx, Nat.reduceAdd, forall_const]
    refine AJ hs7.p1 (AD hs7.oneR) fun w8 hs8 => ?_
    simp only [Ar hs8.blk, Ad hs8.blk, Ae hs8.blk, Ac hs8.blk, Ag hs8.blk, Ah hs8.blk]
    have he : B1 p x id n = BC p x := by
      rw [B1, if_neg hE', if_neg hn, if_neg hpl, BC, if_neg hE']
      cases hd : x.dn with
      | true => simp
      | false => rw [if_neg (by simp), if_pos (by simpa [hd] using h), if_neg (by simp)]
    exact hR _ _ ⟨v', by rw [he], by rw [he]; exact hs8.p1.d1.d1.d1.d1⟩
  have h : ¬ (x.dn = true ∨ n < p.2.1) := by simpa using h
  have hd : x.dn = false := by cases hd : x.dn <;> simp_all
  have hap : ¬ n < p.2.1 := fun h' => h (.inr h')
  refine Af (GZ (hr.fr hs.fr0) hl h1) ?_
  rintro _ w7 ⟨v', rfl, hs7⟩
  replace hs7 := hs.join hs7
  have hv' := Sep.oneR hs7
  refine Av hs7 (Bo w7) fun g5 w8 hs8 => ?_
  refine AJ hs8 (AD hv') fun w9 hs9 => ?_
  have hs10 : Sep w w9 [blk g5 (Rdr.cells Aq (snr v' x)).toArray Ak, rows Ab v' x.l, blk g4 (Rdr.cells Aq (.slice none 0 0, vz 32, vz 32, 0, false)).toArray Ak, blk g3 (Rdr.cells (rVec 32) id).toArray Aa, blk g1 (Rdr.cells AK p).toArray AZ] := hs9.d4
  refine Hi hs10 fun w10 hs10 _ => ?_
  obtain ⟨a0, c0, hvf, _⟩ := (Sep.p1 hs10).formR
  obtain ⟨g, o, hao⟩ : ∃ g o, a0 = some ⟨g, o, none⟩ := by
    obtain ⟨g, o, c', hf⟩ := (Sep.rows hs10.p1).form (by decide) hc
    rw [hvf] at hf
    cases hf
    exact ⟨g, o, rfl⟩
  subst hvf; subst hao
  simp only [fx, Nat.reduceAdd, forall_const, Fz, Ade, Ar hs10.blk, Ad hs10.blk, Ae hs10.blk, Ac hs10.blk, Ag hs10.blk, Ah hs10.blk, hk]
  rw [DJ _ _ _ _ _ _ _ _ (by omega) (by omega), Int.toNat_natCast]
  have hat := At.of (q := Ab) (by decide) (Sep.rows hs10.p1) hc
  have hat' : At w10.heap g (o + k * 33) (Rdr.cells Ab c) := hat
  simp only [fx, Nat.reduceAdd, forall_const, C7 hat', RV]
  rw [wi64 (by omega) (by omega)]
  have hmin : min (c.2 + 1) 1073741824 ≤ 1073741824 := by omega
  rw [DJ _ _ _ _ _ _ _ _ (by omega) (by omega), Int.toNat_natCast, Lz]
  refine Dd ?_
  refine Z0 (q := Ab) (s := rInt .i64) (b := min (c.2 + 1) 1073741824) (.snd .self) rfl hs10.p1 hc rfl rfl fun w11 hs11 => ?_
  have hset : (x.l.set k (c.1, min (c.2 + 1) 1073741824))[k]? = some (c.1, min (c.2 + 1) 1073741824) := List.getElem?_set_self hklt
  generalize hx1 : ({ x with l := x.l.set k (c.1, min (c.2 + 1) 1073741824) } : Sn) = x1 at *
  have hl1 : x1.l = x.l.set k (c.1, min (c.2 + 1) 1073741824) := by rw [← hx1]
  have hsn : ∀ z, snr z x = snr z x1 := fun z => by rw [← hx1]
  have hll : x1.l.length = x.l.length := by rw [hl1]; simp
  have hs11 : Sep w w11 [rows Ab (.slice (some ⟨g, o, none⟩) x.l.length c0) x1.l, blk g5 (Rdr.cells Aq (snr (.slice (some ⟨g, o, none⟩) x.l.length c0) x1)).toArray Ak, blk g4 (Rdr.cells Aq (.slice none 0 0, vz 32, vz 32, 0, false)).toArray Ak, blk g3 (Rdr.cells (rVec 32) id).toArray Aa, blk g1 (Rdr.cells AK p).toArray AZ] := by
    rw [hl1, ← hsn]; exact hs11
  have hpp : plc x1.l x1.pref = plc x.l x.pref := by rw [hl1, RE hc, ← hx1]
  obtain ⟨i0, d0, hpl0, hd0, _, _⟩ : ∃ i d, plc x1.l x1.pref = ((i : Nat) : Int) ∧ x1.l[i]? = some d ∧ d.1 = x1.pref ∧ ∀ (j : Nat) (d : Cho), j < i → x1.l[j]? = some d → d.1 ≠ x1.pref := by
    rcases Ex x1.l x1.pref with ⟨h1, _⟩ | h1
    · exfalso
      rw [hpp] at h1
      unfold Cy at hhead
      omega
    · exact h1
  have hbest : Dm x1 = d0.2 := by rw [Dm, hpl0, Int.toNat_natCast, hd0]; rfl
  have hconf : x1.conf = x.conf := by rw [← hx1]
  have hfl : x1.flake = x.flake := by rw [← hx1]
  refine ⟨fun w' => Sep w w' [blk g5 (Rdr.cells Aq (snr (.slice (some ⟨g, o, none⟩) x.l.length c0) { x1 with pref := if Dm x1 < min (c.2 + 1) 1073741824 then id else x1.pref })).toArray Ak, rows Ab (.slice (some ⟨g, o, none⟩) x.l.length c0) x1.l, blk g4 (Rdr.cells Aq (.slice none 0 0, vz 32, vz 32, 0, false)).toArray Ak, blk g3 (Rdr.cells (rVec 32) id).toArray Aa, blk g1 (Rdr.cells AK p).toArray AZ], ?_, ?_⟩
  · refine A0 hs11 fun w12 hs12 _ => ?_
    have hatS : ∀ u, Sep w u [rows Ab (.slice (some ⟨g, o, none⟩) x.l.length c0) x1.l, blk g5 (Rdr.cells Aq (snr (.slice (some ⟨g, o, none⟩) x.l.length c0) x1)).toArray Ak, blk g4 (Rdr.cells Aq (.slice none 0 0, vz 32, vz 32, 0, false)).toArray Ak, blk g3 (Rdr.cells (rVec 32) id).toArray Aa, blk g1 (Rdr.cells AK p).toArray AZ] →
        At u.heap g (o + k * 33) (Rdr.cells Ab (c.1, min (c.2 + 1) 1073741824)) := fun u hu => At.of (q := Ab) (by decide) (Sep.rows hu) (by rw [hl1]; exact hset)
    simp only [fx, Nat.reduceAdd, forall_const]
    refine ⟨.slice (some ⟨g, o, none⟩) x.l.length c0, fun u hu => ?_, ?_⟩
    · show ld1 _ u.heap _
      rw [Ad (Sep.p1 hu).blk]
    change ixs 33 (.slice (some ⟨g, o, none⟩) x.l.length c0) (.int .i64 (k : Int)) _
    rw [DJ _ _ _ _ _ _ _ _ (by omega) (by omega), Int.toNat_natCast, Lz]
    refine ⟨.int .i64 (min (c.2 + 1) 1073741824), fun u hu => ?_, ?_⟩
    · show ld1 _ u.heap _
      rw [C7 (hatS u hu)]
    refine ⟨.slice (some ⟨g, o, none⟩) x.l.length c0, fun u hu => ?_, ?_⟩
    · show ld1 _ u.heap _
      rw [Ad (Sep.p1 hu).blk]
    refine ⟨snv (.slice (some ⟨g, o, none⟩) x.l.length c0) x1, fun u hu => ?_, ?_⟩
    · show ldN 67 _ u.heap _
      rw [Ar (Sep.p1 hu).blk]
    refine ⟨idv x1.pref, fun u hu => ?_, ?_⟩
    · show ldN 32 _ u.heap _
      rw [Ae (Sep.p1 hu).blk]
    refine AL (Af (EK (Sep.rows hs12) (by omega)) ?_)
    rintro _ w13 ⟨rfl, hf13⟩
    have hs13 := hs12.old hf13
    refine ⟨hs13, ?_⟩
    rw [hpl0]
    refine WS (q := Ab) (.snd .self) rfl (by decide) hs13 (fun u hu => Sep.rows hu) hd0 .i64 ?_
    simp only [fx, Nat.reduceAdd, forall_const]
    rw [← hbest, Aj]
    refine ⟨fun h => ?_, fun h => ?_⟩
    · simp only [Ai hs13.p3.blk]
      refine KM hs13.p1 Ca fun w14 hs14 => ?_
      rw [if_pos (by simpa using h)]
      exact hs14
    · rw [if_neg (by simpa using h)]
      exact hs13.p1
  · intro w12 hs12 _
    generalize hx2 : ({ x1 with pref := if Dm x1 < min (c.2 + 1) 1073741824 then id else x1.pref } : Sn) = x2 at *
    have hx2c : x2.conf = x.conf := by rw [← hx2]; exact hconf
    have hx2f : x2.flake = x.flake := by rw [← hx2]; exact hfl
    have hx2l : x1.l = x2.l := by rw [← hx2]
    have hll2 : x2.l.length = x.l.length := by rw [← hx2l, hll]
    have hup : ∀ cf dn, ({ x2 with conf := cf, dn := dn, flake := id } : Sn) = { updM x id k c with conf := cf, dn := dn } := fun cf dn => by
      unfold updM
      rw [hx1, ← hx2, ← hx1]
    rw [hx2l] at hs12
    have hfin := Og hE hn hk hc hd hap
    unfold Cy at hhead
    refine ⟨fun w' => Sep w w' [blk g5 (Rdr.cells Aq (snr (.slice (some ⟨g, o, none⟩) x.l.length c0) { x2 with conf := if x.flake = id then x.conf else 0 })).toArray Ak, rows Ab (.slice (some ⟨g, o, none⟩) x.l.length c0) x2.l, blk g4 (Rdr.cells Aq (.slice none 0 0, vz 32, vz 32, 0, false)).toArray Ak, blk g3 (Rdr.cells (rVec 32) id).toArray Aa, blk g1 (Rdr.cells AK p).toArray AZ], ?_, ?_⟩
    · simp only [fx, Nat.reduceAdd, forall_const, Ar hs12.blk, Ad hs12.blk, Ae hs12.blk, Ac hs12.blk, Ag hs12.blk, Ah hs12.blk, Ai hs12.p3.blk, C0]
      rw [Aj]
      refine ⟨fun h => ?_, fun h => ?_⟩
      · have h : ¬ x.flake = id := by rw [← hx2f]; simpa using h
        refine DR hs12 fun w13 hs13 => ?_
        rw [if_neg h]
        exact hs13
      · have h : x.flake = id := by rw [← hx2f]; simpa using h
        rw [if_pos h, ← hx2c]
        exact hs12
    · intro w13 hs13 _
      simp only [fx, Nat.reduceAdd, forall_const, Ai hs13.p3.blk]
      refine J7 hs13 Ca fun w14 hs14 => ?_
      simp only [fx, Nat.reduceAdd, forall_const, Bi hs14.p4.blk, AW hs14.p4.blk, AG hs14.p4.blk, AH hs14.p4.blk, AQ hs14.p4.blk]
      rw [Aj]
      refine ⟨fun h => ?_, fun h => ?_⟩
      · have h : n < p.2.2.1 := by simpa using h
        refine DR hs14 fun w15 hs15 => ?_
        simp only [Ar hs15.blk, Ad hs15.blk, Ae hs15.blk, Ac hs15.blk, Ag hs15.blk, Ah hs15.blk]
        refine AJ hs15.p2 (AD hs15.p1.oneR) fun w16 hs16 => ?_
        simp only [Ar hs16.blk, Ad hs16.blk, Ae hs16.blk, Ac hs16.blk, Ag hs16.blk, Ah hs16.blk]
        have hcf : cfM p x id n = 0 := by rw [cfM, if_pos h]
        have hdn : x2.dn = decide ((0 : Int) = p.2.2.2) := by
          have : decide ((0 : Int) = p.2.2.2) = false := by simp; omega
          rw [this, ← hx2, ← hx1]; exact hd
        rw [hcf, ← hup, ← hdn] at hfin
        refine hR _ _ ⟨.slice (some ⟨g, o, none⟩) x.l.length c0, ?_, ?_⟩
        · rw [hfin]
        · rw [hfin]; exact hs16.p2.d1.d1.d1.d1
      · have h : ¬ n < p.2.2.1 := by simpa using h
        simp only [fx, Nat.reduceAdd, forall_const, Ar hs14.blk, Ad hs14.blk, Ae hs14.blk, Ac hs14.blk, Ag hs14.blk, Ah hs14.blk]
        have hcf : cfM p x id n = (if x.flake = id then x.conf else 0) + 1 := by
          rw [cfM, if_neg h]
          by_cases he : x.flake = id
          · rw [if_pos he, if_pos he.symm]
          · rw [if_neg he, if_neg (fun h' => he h'.symm)]; rfl
        have hb : 0 ≤ (if x.flake = id then x.conf else 0) ∧ (if x.flake = id then x.conf else 0) ≤ 1000 := by split <;> omega
        rw [wi64 (by omega) (by omega), ← hcf]
        refine DR hs14 fun w15 hs15 => ?_
        simp only [fx, Nat.reduceAdd, forall_const, Ar hs15.blk, Ad hs15.blk, Ae hs15.blk, Ac hs15.blk, Ag hs15.blk, Ah hs15.blk, Bi hs15.p4.blk, AW hs15.p4.blk, AG hs15.p4.blk, AH hs15.p4.blk, AQ hs15.p4.blk]
        refine KH hs15 fun w16 hs16 => ?_
        simp only [Ar hs16.blk, Ad hs16.blk, Ae hs16.blk, Ac hs16.blk, Ag hs16.blk, Ah hs16.blk]
        refine AJ hs16.p2 (AD hs16.p1.oneR) fun w17 hs17 => ?_
        simp only [Ar hs17.blk, Ad hs17.blk, Ae hs17.blk, Ac hs17.blk, Ag hs17.blk, Ah hs17.blk]
        rw [← hup] at hfin
        refine hR _ _ ⟨.slice (some ⟨g, o, none⟩) x.l.length c0, ?_, ?_⟩
        · rw [hfin, ← RQ]
        · rw [hfin]; exact hs17.p2.d1.d1.d1.d1
end
end Go.Fx
namespace Go.Fx
theorem AgT {p : Par} {x : Sn} (h : snE p x = 0) : (BC p x).2 = 0 := by rw [BC, if_neg (by simpa using h)]
theorem AgQ {p : Par} {x : Sn} {id : Id} {n : Int} (h : snE p x = 0) (hn : 0 ≤ n) (hk : n ≤ p.1) (hid : 0 ≤ plc x.l id) : (B1 p x id n).2 = 0 := by
  rw [B1, if_neg (by simpa using h), if_neg (by omega), if_neg (by omega)]
  repeat' split
  all_goals rfl
theorem Ahs {l : List Cho} {i : Nat} {c : Cho} (hc : l[i]? = some c) : 0 ≤ plc l c.1 := by
  rcases Ex l c.1 with ⟨_, h⟩ | ⟨j, d, h, _⟩
  · exact absurd rfl (h i c hc)
  · omega
structure May (p : Par) (x : Sn) : Prop where
  par : parE p = 0
  n1 : 1 ≤ x.l.length
  n2 : x.l.length ≤ 32
  pref : 0 ≤ plc x.l x.pref
  flake : 0 ≤ plc x.l x.flake
  c0 : 0 ≤ x.conf
  c1 : x.conf ≤ p.2.2.2
  dn : x.dn = decide (x.conf = p.2.2.2)
  own : ∀ (i : Nat) (c : Cho), x.l[i]? = some c → plc x.l c.1 = i ∧ 0 ≤ c.2 ∧ c.2 ≤ 1073741824 ∧ c.2 ≤ Dm x
theorem Ft {p : Par} {x : Sn} : snE p x = 0 ↔ May p x := by
  constructor
  · intro h
    obtain ⟨h1, h2, h3⟩ := TG h
    unfold Cy at h2
    refine ⟨h1, by omega, by omega, by omega, by omega, by omega, by omega, Classical.not_not.1 fun hd => h2 (.inr (.inr (.inr (.inr (.inr (.inr hd)))))), fun i c hc => ?_⟩
    have := h3 i c hc
    simp [Eb] at this
    omega
  · intro h
    refine AaQ h.par (fun hb => ?_) fun i c hc => ?_
    · unfold Cy at hb
      have := h.n1; have := h.n2; have := h.pref; have := h.flake; have := h.c0; have := h.c1
      rcases hb with hb | hb | hb | hb | hb | hb | hb
      · omega
      · omega
      · omega
      · omega
      · omega
      · omega
      · exact hb h.dn
    · have := h.own i c hc
      simp [Eb]
      omega
theorem Js {l : List Cho} {id : Id} (h : 0 ≤ plc l id) : ∃ i c, plc l id = ((i : Nat) : Int) ∧ l[i]? = some c ∧ c.1 = id ∧ ∀ (j : Nat) (d : Cho), j < i → l[j]? = some d → d.1 ≠ id := by
  rcases Ex l id with ⟨h1, _⟩ | h1
  · omega
  · exact h1
theorem RH {l m : List Cho} {id : Id} (h : 0 ≤ plc l id) : plc (l ++ m) id = plc l id := by
  obtain ⟨i, c, h1, h2, h3, h4⟩ := Js h
  have hlt := (List.getElem?_eq_some_iff.1 h2).1
  rw [h1]
  refine LO (c := c) (by rw [List.getElem?_append_left hlt]; exact h2) h3 fun j d hj hd => ?_
  rw [List.getElem?_append_left (by omega)] at hd
  exact h4 j d hj hd
theorem Agj {l : List Cho} {id : Id} {s : Int} (h : plc l id < 0) : plc (l ++ [(id, s)]) id = l.length := by
  refine LO (c := (id, s)) (by simp) rfl fun j d hj hd => ?_
  rw [List.getElem?_append_left (by omega)] at hd
  rcases Ex l id with ⟨_, h2⟩ | ⟨i, c, h1, _⟩
  · exact h2 j d hd
  · omega
def Ahh (l m : List Cho) : Prop := ∀ (i : Nat) (c : Cho), l[i]? = some c → ∃ d, m[i]? = some d ∧ d.1 = c.1 ∧ c.2 ≤ d.2
theorem Ahh.len {l m : List Cho} (h : Ahh l m) : l.length ≤ m.length := by
  rcases Nat.lt_or_ge m.length l.length with hlt | h'
  · obtain ⟨d, hd, _⟩ := h m.length _ (List.getElem?_eq_getElem hlt)
    simp at hd
  · exact h'
def prf (x : Sn) : Id := bif x.dn then x.flake else x.pref
theorem Lh {x : Sn} {i : Nat} {c : Cho} (h : plc x.l x.pref = i) (hc : x.l[i]? = some c) : Dm x = c.2 := by rw [Dm, h, Int.toNat_natCast, hc]; rfl
theorem May.best {p : Par} {x : Sn} (h : May p x) : ∃ i c, plc x.l x.pref = ((i : Nat) : Int) ∧ x.l[i]? = some c ∧ Dm x = c.2 := by
  obtain ⟨i, c, h1, h2, _⟩ := Js h.pref
  exact ⟨i, c, h1, h2, Lh h1 h2⟩
theorem W9 {p : Par} {x : Sn} {id : Id} (h : May p x) : ((addM p x id).2 ≠ 0) ∨ (addM p x id = ({ x with l := x.l ++ [(id, 0)] }, 0) ∧ May p { x with l := x.l ++ [(id, 0)] }) := by
  by_cases h1 : 0 ≤ plc x.l id
  · left; rw [addM, if_neg (by simpa using Ft.2 h), if_pos h1]; decide
  by_cases h2 : 32 ≤ x.l.length
  · left; rw [addM, if_neg (by simpa using Ft.2 h), if_neg h1, if_pos h2]; decide
  right
  refine ⟨by rw [addM, if_neg (by simpa using Ft.2 h), if_neg h1, if_neg h2], ?_⟩
  obtain ⟨i, c, hi, hc, hb⟩ := h.best
  have hlt := (List.getElem?_eq_some_iff.1 hc).1
  have hb' : Go.Fx.Dm { x with l := x.l ++ [(id, 0)] } = c.2 := Lh (x := { x with l := x.l ++ [(id, 0)] }) (by show plc (x.l ++ _) x.pref = _; rw [RH h.pref]; exact hi) (by show (x.l ++ _)[i]? = _; rw [List.getElem?_append_left hlt]; exact hc)
  have hc0 := h.own i c hc
  refine ⟨h.par, by simp, by simp; omega, by show 0 ≤ plc (x.l ++ _) x.pref; rw [RH h.pref]; exact h.pref, by show 0 ≤ plc (x.l ++ _) x.flake; rw [RH h.flake]; exact h.flake, h.c0, h.c1, h.dn, fun j d hd => ?_⟩
  rw [hb']
  have hd : (x.l ++ [(id, 0)])[j]? = some d := hd
  by_cases hj : j < x.l.length
  · rw [List.getElem?_append_left hj] at hd
    obtain ⟨q1, q2, q3, q4⟩ := h.own j d hd
    refine ⟨?_, q2, q3, by rw [← hb]; exact q4⟩
    show plc (x.l ++ _) d.1 = _
    rw [RH (by omega)]
    exact q1
  · have hje : j = x.l.length := by have := (List.getElem?_eq_some_iff.1 hd).1; simp at this; omega
    subst hje
    simp at hd
    subst hd
    refine ⟨?_, by simp, by simp, hc0.2.1⟩
    show plc (x.l ++ _) id = _
    exact Agj (by omega)
theorem ZU {p : Par} {x : Sn} (h : May p x) : May p (BC p x).1 ∧ (BC p x).1.l = x.l ∧ prf (BC p x).1 = prf x ∧ (x.dn = true → (BC p x).1 = x) ∧ (BC p x).1.dn = x.dn ∧ (x.dn = false → (BC p x).1.conf = 0 ∧ (BC p x).1.flake = x.flake) := by
  have he : (BC p x).1 = if x.dn then x else { x with conf := 0 } := by rw [BC, if_neg (by simpa using Ft.2 h)]
  rw [he]
  by_cases hd : x.dn = true
  · rw [if_pos hd]
    exact ⟨h, rfl, rfl, fun _ => rfl, rfl, fun h => by rw [hd] at h; cases h⟩
  · rw [if_neg hd]
    have hd : x.dn = false := by simpa using hd
    obtain ⟨_, _, _, _, _, q6, _⟩ := EZ h.par
    refine ⟨⟨h.par, h.n1, h.n2, h.pref, h.flake, by simp, by simp; omega, ?_, h.own⟩, rfl, ?_, (fun h => by rw [hd] at h; cases h), rfl, fun _ => ⟨rfl, rfl⟩⟩
    · have : decide ((0 : Int) = p.2.2.2) = false := by simp; omega
      show x.dn = decide ((0 : Int) = p.2.2.2)
      rw [this, hd]
    · show (bif x.dn then _ else _) = (bif x.dn then _ else _)
      rw [hd]
theorem AiG {p : Par} {x : Sn} {k : Nat} {c : Cho} {n : Int} (h : May p x) (hc : x.l[k]? = some c) (hd : x.dn = false) {y : Sn}
    (hy : y = { updM x c.1 k c with conf := cfM p x c.1 n, dn := decide (cfM p x c.1 n = p.2.2.2) }) :
    May p y ∧ y.l = x.l.set k (c.1, min (c.2 + 1) 1073741824) ∧ y.flake = c.1 ∧ (y.pref = x.pref ∨ (y.pref = c.1 ∧ ∃ s, plc x.l x.pref = ((s : Nat) : Int) ∧ ∃ d, y.l[s]? = some d ∧ d.2 < min (c.2 + 1) 1073741824)) := by
  have hklt := (List.getElem?_eq_some_iff.1 hc).1
  obtain ⟨q1, q2, q3, q4⟩ := h.own k c hc
  obtain ⟨_, _, _, _, _, r6, _⟩ := EZ h.par
  obtain ⟨i, b, hi, hb, hbest⟩ := h.best
  have hilt := (List.getElem?_eq_some_iff.1 hb).1
  generalize hs : min (c.2 + 1) 1073741824 = s at *
  have hs1 : c.2 ≤ s ∧ 0 ≤ s ∧ s ≤ 1073741824 := by omega
  have hyl : y.l = x.l.set k (c.1, s) := by rw [hy, updM, hs]
  have hplc : ∀ z, plc y.l z = plc x.l z := fun z => by rw [hyl, RE hc]
  obtain ⟨b', hb', hbb⟩ : ∃ b', y.l[i]? = some b' ∧ b.2 ≤ b'.2 := by
    rw [hyl]
    by_cases hik : k = i
    · subst hik
      rw [hc] at hb; cases hb
      exact ⟨_, List.getElem?_set_self hklt, hs1.1⟩
    · exact ⟨b, by rw [List.getElem?_set_ne hik]; exact hb, Int.le_refl _⟩
  have hbx1 : Dm { x with l := x.l.set k (c.1, s) } = b'.2 := Lh (x := { x with l := x.l.set k (c.1, s) }) (by show plc (x.l.set _ _) x.pref = _; rw [RE hc]; exact hi) (by rw [← hyl]; exact hb')
  have hyp : y.pref = if b'.2 < s then c.1 else x.pref := by rw [hy, updM, hs, hbx1]
  have hyf : y.flake = c.1 := by rw [hy, updM]
  have hyc : y.conf = cfM p x c.1 n := by rw [hy]
  have hyd : y.dn = decide (cfM p x c.1 n = p.2.2.2) := by rw [hy]
  have hcf : x.conf ≠ p.2.2.2 := fun he => by have := h.dn; rw [hd, he] at this; simp at this
  have hcb : 0 ≤ cfM p x c.1 n ∧ cfM p x c.1 n ≤ p.2.2.2 := by
    have := h.c0; have := h.c1
    unfold cfM
    repeat' split
    all_goals omega
  have hky : y.l[k]? = some (c.1, s) := by rw [hyl]; exact List.getElem?_set_self hklt
  have hby : b'.2 ≤ Dm y ∧ s ≤ Dm y := by
    by_cases hlt : b'.2 < s
    · rw [if_pos hlt] at hyp
      have : Dm y = s := Lh (c := (c.1, s)) (i := k) (by rw [hplc, hyp]; exact q1) hky
      omega
    · rw [if_neg hlt] at hyp
      have : Dm y = b'.2 := Lh (i := i) (by rw [hplc, hyp]; exact hi) hb'
      omega
  refine ⟨⟨h.par, by rw [hyl]; simpa using h.n1, by rw [hyl]; simpa using h.n2, ?_, by rw [hplc, hyf]; omega, by rw [hyc]; exact hcb.1, by rw [hyc]; exact hcb.2, by rw [hyd, hyc], fun j d hj => ?_⟩, hyl, hyf, ?_⟩
  · rw [hplc, hyp]
    split
    · omega
    · exact h.pref
  · rw [hplc]
    by_cases hjk : k = j
    · subst hjk
      rw [hky] at hj
      cases hj
      exact ⟨q1, hs1.2.1, hs1.2.2, hby.2⟩
    · rw [hyl, List.getElem?_set_ne hjk] at hj
      obtain ⟨e1, e2, e3, e4⟩ := h.own j d hj
      exact ⟨e1, e2, e3, by omega⟩
  · by_cases hlt : b'.2 < s
    · right
      rw [if_pos hlt] at hyp
      exact ⟨hyp, i, hi, b', hb', hlt⟩
    · left
      rw [if_neg hlt] at hyp
      exact hyp
theorem AdL {p : Par} {x : Sn} {k : Nat} {c : Cho} {n : Int} (h : May p x) (hc : x.l[k]? = some c) (h0 : 0 ≤ n) (hk : n ≤ p.1) :
    (x.dn = true ∧ (B1 p x c.1 n).1 = x) ∨ (x.dn = false ∧ n < p.2.1 ∧ (B1 p x c.1 n).1 = (BC p x).1) ∨
      (x.dn = false ∧ p.2.1 ≤ n ∧ (B1 p x c.1 n).1 = { updM x c.1 k c with conf := cfM p x c.1 n, dn := decide (cfM p x c.1 n = p.2.2.2) }) := by
  have hE := Ft.2 h
  have hpl := (h.own k c hc).1
  cases hd : x.dn with
  | true => left; exact ⟨rfl, by rw [B1, if_neg (by simpa using hE), if_neg (by omega), if_neg (by omega), if_pos hd]⟩
  | false =>
    right
    by_cases hn : n < p.2.1
    · left
      refine ⟨rfl, hn, ?_⟩
      rw [B1, if_neg (by simpa using hE), if_neg (by omega), if_neg (by omega), if_neg (by simp [hd]), if_pos hn, BC, if_neg (by simpa using hE), if_neg (by simp [hd])]
    · right
      refine ⟨rfl, by omega, ?_⟩
      rw [Og hE (by omega) hpl hc hd hn]
theorem WK {p : Par} {id : Id} (h : parE p = 0) : May p (newM p id).1 ∧ (newM p id).2 = 0 ∧ (newM p id).1.dn = false ∧ (newM p id).1.conf = 0 := by
  obtain ⟨r1, r2, r3, r4, r5, r6, r7⟩ := EZ h
  have he : newM p id = (⟨[(id, 0)], id, id, 0, false⟩, 0) := by rw [newM, if_neg (by simpa using h)]
  have hp : plc [(id, 0)] id = ((0 : Nat) : Int) := LO (c := (id, 0)) rfl rfl fun j d hj => by omega
  rw [he]
  refine ⟨⟨h, by simp, by simp, by show 0 ≤ plc [(id, 0)] id; omega, by show 0 ≤ plc [(id, 0)] id; omega, by simp, by show (0 : Int) ≤ _; omega, ?_, fun i c hc => ?_⟩, rfl, rfl, rfl⟩
  · have : decide ((0 : Int) = p.2.2.2) = false := by simp; omega
    exact this.symm
  · match i, hc with
    | 0, hc =>
      cases hc
      have hb : Dm ⟨[(id, 0)], id, id, 0, false⟩ = 0 := Lh (i := 0) (c := (id, 0)) hp rfl
      rw [hb]
      exact ⟨hp, by simp, by simp, by simp⟩
    | i + 1, hc => simp at hc
end Go.Fx
namespace Go.Fx
def Bk (t : Tr) (N : List TN) (k : Vec 32) : List (Vec 32) := if has t N k = true then nms (N.filter fun x => decide (x.2.1.p = k)) else []
def cntT (t : Tr) (N : List TN) (V : List Vt) (k : Vec 32) : Int := (V.map fun v => if under t N v.1 k = true then v.2 else 0).sum
def B0 (f : Vec 32 → Int) (l : List (Vec 32)) : Vec 32 × Int := l.foldl (fun b k => if b.2 < f k ∨ (f k = b.2 ∧ 0 < b.2 ∧ ltV k b.1 = true) then (k, f k) else b) (vz 32, 0)
section
variable {t : Tr} {N : List TN} {m : Nat}
theorem W5 {k : Vec 32} (hw : TrW t N) : k ∈ nms N ↔ has t N k = true ∧ k ≠ t.root := by
  constructor
  · intro h
    have hb : ∃ b, Ba k N = some b := by
      obtain ⟨x, hx, rfl⟩ := List.mem_map.1 h
      unfold Ba Bx
      cases hf : N.find? (fun y => decide (x.1 = y.1)) with
      | some y => exact ⟨y.2.1, rfl⟩
      | none => rw [List.find?_eq_none] at hf; have := hf x hx; simp at this
    obtain ⟨b, hb⟩ := hb
    exact ⟨D7 hb, DX hw hb⟩
  · rintro ⟨h, hr⟩
    exact (RS h).resolve_left hr
theorem C3 (hw : TrW t N) (hn : (nms N).Nodup) {k a : Vec 32} : a ∈ Bk t N k ↔ has t N k = true ∧ has t N a = true ∧ a ≠ t.root ∧ upOf a N = k := by
  unfold Bk
  split
  · rename_i hk
    rw [← XJ hn, List.mem_filter, W5 hw]
    simp only [decide_eq_true_eq, hk, true_and]
    exact ⟨fun h => ⟨h.1.1, h.1.2, h.2⟩, fun h => ⟨⟨h.1, h.2.1⟩, h.2.2⟩⟩
  · rename_i hk
    simp only [List.not_mem_nil, false_iff]
    exact fun h => hk h.1
theorem AdE (hn : (nms N).Nodup) (k : Vec 32) : (Bk t N k).Nodup := by
  unfold Bk
  split
  · exact hn.sublist (List.filter_sublist.map _)
  · exact List.nodup_nil
theorem CC {a b : Vec 32} (h : under t N a b = true) : has t N a = true ∧ has t N b = true := by
  unfold under at h
  simp only [Bool.and_eq_true] at h
  exact ⟨h.1, h.2.1⟩
theorem Ii : has t N t.root = true := Db (.inl rfl)
theorem DG (b : Vec 32) : under t N t.root b = decide (b = t.root) := by
  by_cases hb : has t N b = true
  · rw [Et Ii hb, FH]
    simp
  · have h1 : under t N t.root b = false := by
      cases h : under t N t.root b with
      | false => rfl
      | true => exact absurd (CC h).2 hb
    rw [h1]
    symm
    exact decide_eq_false fun he => hb (he ▸ Ii)
theorem C4 (hw : TrW t N) {a b : Vec 32} (ha : has t N a = true) (hr : a ≠ t.root) : under t N a b = (decide (a = b) || under t N (upOf a N) b) := by
  have hu := (F5 hw ha hr).1
  by_cases hb : has t N b = true
  · rw [Et ha hb, Et hu hb, E0 hw ha hr]
    by_cases h1 : b = t.root <;> by_cases h2 : b ∈ BB t N (upOf a N) <;> by_cases h3 : a = b <;> simp [h1, h2, h3, eq_comm]
  · have h1 : ∀ c, under t N c b = false := fun c => by
      cases h : under t N c b with
      | false => rfl
      | true => exact absurd (CC h).2 hb
    rw [h1, h1, Bool.or_false]
    symm
    exact decide_eq_false fun he => hb (he ▸ ha)
theorem IK (hw : TrW t N) {a : Vec 32} (ha : has t N a = true) : under t N a a = true := by
  by_cases hr : a = t.root
  · subst hr; rw [DG]; simp
  · rw [C4 hw ha hr]; simp
theorem Q4 (hw : TrW t N) {a b : Vec 32} (h : under t N a b = true) : a = b ∨ hgt t N b < hgt t N a := by
  have ha := (CC h).1
  revert h
  refine Ik hw (C := fun a => under t N a b = true → a = b ∨ hgt t N b < hgt t N a) (fun h => ?_) (fun a ha hr ih h => ?_) a ha
  · rw [DG] at h
    exact .inl (of_decide_eq_true h).symm
  · rw [C4 hw ha hr] at h
    simp only [Bool.or_eq_true, decide_eq_true_eq] at h
    have h2 := (F5 hw ha hr).2
    rcases h with h | h
    · exact .inl h
    · right
      rcases ih h with h | h
      · rw [h] at h2; omega
      · omega
theorem AcY (hw : TrW t N) {a k c : Vec 32} (h : under t N a k = true) (h2 : under t N k c = true) : under t N a c = true := by
  have ha := (CC h).1
  revert h
  refine Ik hw (C := fun a => under t N a k = true → under t N a c = true) (fun h => ?_) (fun a ha hr ih h => ?_) a ha
  · rw [DG] at h
    have : k = t.root := by simpa using h
    rw [← this]; exact h2
  · rw [C4 hw ha hr] at h ⊢
    simp only [Bool.or_eq_true, decide_eq_true_eq] at h ⊢
    rcases h with h | h
    · subst h
      rw [C4 hw ha hr] at h2
      simpa using h2
    · exact .inr (ih h)
theorem Lf (hw : TrW t N) (hn : (nms N).Nodup) {k a : Vec 32} (h : a ∈ Bk t N k) : hgt t N a = hgt t N k + 1 := by
  obtain ⟨_, h2, h3, h4⟩ := (C3 hw hn).1 h
  rw [(F5 hw h2 h3).2, h4]
theorem Fg {α : Type} (l : List α) (f : α → Int) (h : ∀ x ∈ l, f x = 0) : (l.map f).sum = 0 := by
  induction l with
  | nil => rfl
  | cons a l ih =>
    rw [List.map_cons, List.sum_cons, h a (by simp), ih fun x hx => h x (by simp [hx])]
    rfl
theorem Iz {α : Type} (l : List α) (f g : α → Int) (h : ∀ x ∈ l, f x = g x) : (l.map f).sum = (l.map g).sum := by
  induction l with
  | nil => rfl
  | cons a l ih => rw [List.map_cons, List.map_cons, List.sum_cons, List.sum_cons, h a (by simp), ih fun x hx => h x (by simp [hx])]
theorem Adi {α : Type} (l : List α) (f g : α → Int) : (l.map fun x => f x + g x).sum = (l.map f).sum + (l.map g).sum := by
  induction l with
  | nil => rfl
  | cons a l ih => rw [List.map_cons, List.map_cons, List.map_cons, List.sum_cons, List.sum_cons, List.sum_cons, ih]; omega
theorem Ah4 {α : Type} (l : List α) (c : Int) (f : α → Int) : (l.map fun x => c * f x).sum = c * (l.map f).sum := by
  induction l with
  | nil => simp
  | cons a l ih => rw [List.map_cons, List.map_cons, List.sum_cons, List.sum_cons, ih, Int.mul_add]
theorem AgM {α β : Type} (l : List α) (r : List β) (f : α → β → Int) : (l.map fun x => (r.map fun y => f x y).sum).sum = (r.map fun y => (l.map fun x => f x y).sum).sum := by
  induction l with
  | nil => simp only [List.map_nil, List.sum_nil]; exact (Fg r _ fun _ _ => rfl).symm
  | cons a l ih =>
    simp only [List.map_cons, List.sum_cons]
    rw [ih, Adi]
theorem Aba {α : Type} (l : List α) (f g : α → Int) (h : ∀ x ∈ l, f x ≤ g x) : (l.map f).sum ≤ (l.map g).sum := by
  induction l with
  | nil => simp
  | cons a l ih =>
    simp only [List.map_cons, List.sum_cons]
    have := h a (by simp)
    have := ih fun x hx => h x (by simp [hx])
    omega
theorem Ahw {α : Type} [DecidableEq α] {l : List α} (hn : l.Nodup) {a : α} (h : a ∈ l) (c : Int) : (l.map fun x => if a = x then c else 0).sum = c := by
  induction l with
  | nil => cases h
  | cons b l ih =>
    rw [List.nodup_cons] at hn
    simp only [List.map_cons, List.sum_cons]
    by_cases hab : a = b
    · subst hab
      rw [if_pos rfl, Fg l (fun x => if a = x then c else 0) fun x hx => if_neg fun he : a = x => hn.1 (he ▸ hx)]
      omega
    · rw [if_neg hab, ih hn.2 ((List.mem_cons.1 h).resolve_left hab)]
      omega
def b01 (b : Bool) : Int := bif b then 1 else 0
theorem AeB (hw : TrW t N) (hn : (nms N).Nodup) {k a : Vec 32} (hk : has t N k = true) : b01 (under t N a k) = b01 (decide (a = k)) + ((Bk t N k).map fun x => b01 (under t N a x)).sum := by
  by_cases ha : has t N a = true
  case neg =>
    have h1 : ∀ c, under t N a c = false := fun c => by
      cases h : under t N a c with
      | false => rfl
      | true => exact absurd (CC h).1 ha
    have h2 : decide (a = k) = false := decide_eq_false fun he => ha (he ▸ hk)
    rw [h1, h2, Fg _ _ fun x _ => by rw [h1]; rfl]
    rfl
  refine Ik hw (C := fun a => b01 (under t N a k) = b01 (decide (a = k)) + ((Bk t N k).map fun x => b01 (under t N a x)).sum) ?_ (fun a ha hr ih => ?_) a ha
  · rw [DG, Fg _ _ fun x hx => by
      rw [DG, decide_eq_false ((C3 hw hn).1 hx).2.2.1]
      rfl]
    by_cases h : k = t.root
    · subst h; simp [b01]
    · simp [h, Ne.symm h]
  · have hz : ∀ x ∈ Bk t N k, under t N k x = false := fun x hx => by
      cases h : under t N k x with
      | false => rfl
      | true =>
        have h1 := Lf hw hn hx
        rcases Q4 hw h with h | h
        · subst h; omega
        · omega
    by_cases he : a = k
    · subst he
      rw [IK hw ha, Fg _ _ fun x hx => by rw [hz x hx]; rfl, decide_eq_true rfl]
      rfl
    · rw [C4 hw ha hr, decide_eq_false he, Bool.false_or, ih]
      by_cases hu : upOf a N = k
      · have hak : a ∈ Bk t N k := (C3 hw hn).2 ⟨hk, ha, hr, hu⟩
        rw [hu, Fg (Bk t N k) (fun x => b01 (under t N k x)) fun x hx => by rw [hz x hx]; rfl, decide_eq_true rfl]
        have e : ∀ x ∈ Bk t N k, b01 (under t N a x) = if a = x then 1 else 0 := fun x hx => by
          rw [C4 hw ha hr, hu, hz x hx, Bool.or_false]
          by_cases hx : a = x <;> simp [hx, b01]
        rw [Iz _ _ _ e, Ahw (AdE hn k) hak]
        rfl
      · have e : ∀ x ∈ Bk t N k, b01 (under t N a x) = b01 (under t N (upOf a N) x) := fun x hx => by
          have hax : decide (a = x) = false := decide_eq_false fun h => hu (h ▸ ((C3 hw hn).1 hx).2.2.2)
          rw [C4 hw ha hr, hax, Bool.false_or]
        rw [Iz _ _ _ e, decide_eq_false hu]
theorem AfB {V : List Vt} (h : BN V) {i j : Nat} {u v : Vt} (hu : V[i]? = some u) (hv : V[j]? = some v) (hij : i < j) : ofBe u.1.1 < ofBe v.1.1 := by
  have key : ∀ d i (u v : Vt), V[i]? = some u → V[i + 1 + d]? = some v → ofBe u.1.1 < ofBe v.1.1 := fun d => by
    induction d with
    | zero =>
      intro i u v hu hv
      have := (h (i + 1) v hv).1 u (by omega) hu
      simpa [ltV] using this
    | succ d ih =>
      intro i u v hu hv
      obtain ⟨x, hx⟩ : ∃ x, V[i + 1 + d]? = some x := ⟨_, List.getElem?_eq_getElem (by have := (List.getElem?_eq_some_iff.1 hv).1; omega)⟩
      have h1 := ih i u x hu hx
      have h2 := (h (i + 1 + (d + 1)) v hv).1 x (by omega) (by rw [show i + 1 + (d + 1) - 1 = i + 1 + d by omega]; exact hx)
      have h2 : ofBe x.1.1 < ofBe v.1.1 := by simpa [ltV] using h2
      omega
  exact key (j - i - 1) i u v hu (by rw [show i + 1 + (j - i - 1) = j by omega]; exact hv)
theorem AhF {V : List Vt} (h : BN V) {i j : Nat} {u v : Vt} (hu : V[i]? = some u) (hv : V[j]? = some v) (he : u.1 = v.1) : i = j := by
  rcases Nat.lt_trichotomy i j with hl | hl | hl
  · have := AfB h hu hv hl; rw [he] at this; omega
  · exact hl
  · have := AfB h hv hu hl; rw [he] at this; omega
theorem Ag6 {V : List Vt} (h : BN V) (k : Vec 32) : cntV V k = (V.map fun v => v.2 * b01 (decide (v.1 = k))).sum := by
  have hp : V.Pairwise fun u v => u.1 ≠ v.1 := by
    rw [List.pairwise_iff_getElem]
    intro i j hi hj hij he
    have := AhF h (List.getElem?_eq_getElem hi) (List.getElem?_eq_getElem hj) he
    omega
  clear h
  induction V with
  | nil => rfl
  | cons v V ih =>
    rw [List.pairwise_cons] at hp
    simp only [List.map_cons, List.sum_cons]
    unfold cntV
    by_cases hk : v.1 = k
    · rw [List.find?_cons_of_pos (by simpa using hk), Fg V _ fun u hu => by
        rw [decide_eq_false fun he => hp.1 u hu (hk.trans he.symm)]
        simp [b01]]
      simp [hk, b01]
    · rw [List.find?_cons_of_neg (by simpa using hk), decide_eq_false hk]
      have := ih hp.2
      unfold cntV at this
      rw [this]
      simp [b01]
theorem Af8 (b : Bool) (c : Int) : (if b = true then c else 0) = c * b01 b := by cases b <;> simp [b01]
theorem AhC (hw : TrW t N) (hn : (nms N).Nodup) {V : List Vt} (h : BN V) {k : Vec 32} (hk : has t N k = true) : cntT t N V k = cntV V k + ((Bk t N k).map (cntT t N V)).sum := by
  unfold cntT
  rw [Ag6 h]
  have e : ∀ v ∈ V, (if under t N v.1 k = true then v.2 else 0) = v.2 * b01 (decide (v.1 = k)) + ((Bk t N k).map fun x => if under t N v.1 x = true then v.2 else 0).sum := fun v _ => by
    rw [Af8, AeB hw hn hk, Int.mul_add, ← Ah4]
    congr 1
    exact Iz _ _ _ fun x _ => (Af8 _ _).symm
  rw [Iz _ _ _ e, Adi, AgM]
theorem V6 {V : List Vt} (h : BN V) (k : Vec 32) : 0 ≤ cntT t N V k ∧ cntT t N V k ≤ sumV V := by
  have hp := h.pos
  constructor
  · have := Aba V (fun _ => (0 : Int)) (fun v => if under t N v.1 k = true then v.2 else 0) fun v hv => by
      have := hp v hv
      show (0 : Int) ≤ if under t N v.1 k = true then v.2 else 0
      split <;> omega
    rw [Fg V (fun _ => (0 : Int)) fun _ _ => rfl] at this
    exact this
  · exact Aba V _ _ fun v hv => by
      have := hp v hv
      show (if under t N v.1 k = true then v.2 else 0) ≤ v.2
      split <;> omega
end
theorem Ahz (f : Vec 32 → Int) (l : List (Vec 32)) : 0 ≤ (B0 f l).2 ∧ (0 < (B0 f l).2 → (B0 f l).1 ∈ l ∧ f (B0 f l).1 = (B0 f l).2) ∧ ∀ k ∈ l, f k ≤ (B0 f l).2 := by
  have key : ∀ (l r : List (Vec 32)) (b : Vec 32 × Int), (0 ≤ b.2 ∧ (0 < b.2 → b.1 ∈ r ∧ f b.1 = b.2) ∧ ∀ k ∈ r, f k ≤ b.2) →
      (fun b : Vec 32 × Int => 0 ≤ b.2 ∧ (0 < b.2 → b.1 ∈ r ++ l ∧ f b.1 = b.2) ∧ ∀ k ∈ r ++ l, f k ≤ b.2) (l.foldl (fun b k => if b.2 < f k ∨ (f k = b.2 ∧ 0 < b.2 ∧ ltV k b.1 = true) then (k, f k) else b) b) := by
    intro l
    induction l with
    | nil => intro r b h; simpa using h
    | cons a l ih =>
      intro r b h
      rw [List.foldl_cons]
      have := ih (r ++ [a]) (if b.2 < f a ∨ (f a = b.2 ∧ 0 < b.2 ∧ ltV a b.1 = true) then (a, f a) else b) ?_
      · simpa only [List.append_assoc, List.singleton_append] using this
      · obtain ⟨h1, h2, h3⟩ := h
        split
        · rename_i hc
          refine ⟨by show 0 ≤ f a; omega, fun _ => ⟨by simp, rfl⟩, fun k hk => ?_⟩
          show f k ≤ f a
          rcases List.mem_append.1 hk with hk | hk
          · have := h3 k hk; omega
          · obtain rfl : k = a := by simpa using hk
            exact Int.le_refl _
        · rename_i hc
          refine ⟨h1, fun h0 => ⟨by simp [(h2 h0).1], (h2 h0).2⟩, fun k hk => ?_⟩
          rcases List.mem_append.1 hk with hk | hk
          · exact h3 k hk
          · obtain rfl : k = a := by simpa using hk
            omega
  have := key l [] (vz 32, 0) ⟨Int.le_refl _, fun h => absurd h (by decide), fun k hk => by cases hk⟩
  simp only [List.nil_append] at this
  exact this
theorem AeF {f g : Vec 32 → Int} {l : List (Vec 32)} (h : ∀ k ∈ l, f k = g k) : B0 f l = B0 g l := by
  unfold B0
  generalize (vz 32, (0 : Int)) = b
  induction l generalizing b with
  | nil => rfl
  | cons a l ih =>
    rw [List.foldl_cons, List.foldl_cons, h a (by simp)]
    exact ih (fun k hk => h k (by simp [hk])) _
section
variable {t : Tr} {N : List TN} {m : Nat} {k : Vec 32}
theorem FU (hw : TrW t N) (hk : mvOk t N k = true) (a : Vec 32) : has (mvT t N k) (mvN t N k) a = under t N a k := by
  obtain ⟨hkb, hkp⟩ := FF hk
  have hkh : has t N k = true := D7 hkb
  by_cases ha : a = k
  · subst ha
    rw [IK hw hkh]
    exact Db (.inl rfl)
  · have hd : decide (a = (mvT t N k).root) = false := decide_eq_false ha
    unfold has
    rw [hd, Bool.false_or, QP]
    cases hu : under t N a k with
    | false => rw [if_neg fun h => by cases h.2]; rfl
    | true =>
      rw [if_pos ⟨ha, rfl⟩]
      have har : a ≠ t.root := fun he => by
        rw [he, DG] at hu
        exact DX hw hkb (by simpa using hu)
      rw [ED (CC hu).1 har]
      rfl
theorem AhX (hw : TrW t N) {a : Vec 32} (ha : a ≠ k) (hu : under t N a k = true) : upOf a (mvN t N k) = upOf a N := by
  unfold upOf
  rw [AfP, Afw (fun y => !decide (y = k) && under t N y k) a N (by simp [ha, hu])]
theorem Adh (hw : TrW t N) (hn : (nms N).Nodup) (hk : mvOk t N k = true) {c : Vec 32} (hc : under t N c k = true) : Bk (mvT t N k) (mvN t N k) c = Bk t N c := by
  obtain ⟨hkb, hkp⟩ := FF hk
  have hkr := DX hw hkb
  have hkh : has t N k = true := D7 hkb
  unfold Bk
  rw [if_pos (by rw [FU hw hk]; exact hc), if_pos (CC hc).1]
  congr 1
  unfold mvN
  rw [List.filter_filter]
  refine List.filter_congr fun x hx => ?_
  by_cases hp : x.2.1.p = c
  · have h1 : x.1 ∈ Bk t N c := by
      unfold Bk
      rw [if_pos (CC hc).1]
      exact List.mem_map_of_mem (List.mem_filter.2 ⟨hx, by simpa using hp⟩)
    obtain ⟨_, h2, h3, h4⟩ := (C3 hw hn).1 h1
    have h5 : x.1 ≠ k := fun he => by
      rw [he, hkp] at h4
      rw [← h4, DG] at hc
      exact hkr (by simpa using hc)
    have h6 : under t N x.1 k = true := by
      rw [C4 hw h2 h3, h4, hc]
      simp
    simp [hp, h5, h6]
  · simp [hp]
theorem AgA (hi : TM t N m) (hk : mvOk t N k = true) {a b : Vec 32} (hb : under t N b k = true) : under (mvT t N k) (mvN t N k) a b = under t N a b := by
  have hw := hi.w
  have hw' := (hi.move hk).w
  obtain ⟨hkb, hkp⟩ := FF hk
  have hkr := DX hw hkb
  have hkh : has t N k = true := D7 hkb
  by_cases ha : has (mvT t N k) (mvN t N k) a = true
  · refine Ik hw' (C := fun a => under (mvT t N k) (mvN t N k) a b = under t N a b) ?_ (fun a ha hr ih => ?_) a ha
    · rw [DG]
      show decide (b = k) = under t N k b
      by_cases hbk : b = k
      · subst hbk; rw [IK hw hkh]; simp
      · rw [decide_eq_false hbk]
        symm
        cases h : under t N k b with
        | false => rfl
        | true =>
          have h1 := (Q4 hw h).resolve_left (Ne.symm hbk)
          have h2 := (Q4 hw hb).resolve_left hbk
          omega
    · have hr : a ≠ k := hr
      have hu : under t N a k = true := by rw [← FU hw hk]; exact ha
      have har : a ≠ t.root := fun he => by
        rw [he, DG] at hu
        exact hkr (by simpa using hu)
      rw [C4 hw' ha (show a ≠ (mvT t N k).root from hr), C4 hw (CC hu).1 har, ih, AhX hw hr hu]
  · have h1 : under (mvT t N k) (mvN t N k) a b = false := by
      cases h : under (mvT t N k) (mvN t N k) a b with
      | false => rfl
      | true => exact absurd (CC h).1 ha
    rw [h1]
    symm
    cases h : under t N a b with
    | false => rfl
    | true =>
      exfalso
      apply ha
      rw [FU hw hk]
      exact AcY hw h hb
theorem AiC (hi : TM t N m) (hk : mvOk t N k = true) (V : List Vt) {b : Vec 32} (hb : under t N b k = true) : cntT (mvT t N k) (mvN t N k) V b = cntT t N V b := by
  unfold cntT
  exact Iz _ _ _ fun v _ => by rw [AgA hi hk hb]
theorem Aip (hw : TrW t N) (hk : mvOk t N k = true) : (mvN t N k).length < N.length := by
  obtain ⟨hkb, _⟩ := FF hk
  have hm : k ∈ nms N := (W5 hw).2 ⟨D7 hkb, DX hw hkb⟩
  obtain ⟨x, hx, rfl⟩ := List.mem_map.1 hm
  unfold mvN
  rcases Nat.lt_or_ge (N.filter fun y => !decide (y.1 = x.1) && under t N y.1 x.1).length N.length with h | h
  · exact h
  · have he := List.length_filter_le (fun y : TN => !decide (y.1 = x.1) && under t N y.1 x.1) N
    have := (List.filter_eq_self.1 ((List.filter_sublist (l := N) (p := fun y : TN => !decide (y.1 = x.1) && under t N y.1 x.1)).eq_of_length_le h)) x hx
    simp at this
end
end Go.Fx
namespace Go.Fx
def sN (N : List TN) : List TN := N.map fun x => (x.1, x.2.1, undef, 0)
theorem D2 (N : List TN) : kbs (sN N) = kbs N := by
  unfold sN kbs
  rw [List.map_map]
  rfl
theorem AiR {N M : List TN} (h : kbs N = kbs M) : sN N = sN M := by
  have e : ∀ N : List TN, sN N = (kbs N).map fun x => (x.1, x.2, undef, 0) := fun N => by
    unfold kbs
    rw [List.map_map]
    rfl
  rw [e, e, h]
theorem Ahr (t : Tr) (N : List TN) (k : Vec 32) : mvN t (sN N) k = sN (mvN t N k) := by
  unfold mvN
  rw [show (fun x : TN => !decide (x.1 = k) && under t (sN N) x.1 k) = fun x => !decide (x.1 = k) && under t N x.1 k from funext fun x => by rw [Ov (D2 N)]]
  unfold sN
  rw [List.filter_map]
  rfl
theorem Afb {t : Tr} {N M : List TN} (h : kbs N = kbs M) (k : Vec 32) : mvT t N k = mvT t M k := by unfold mvT; rw [ZA h]
theorem Mz {t : Tr} {N M : List TN} (h : kbs N = kbs M) (k : Vec 32) : CB t N k = CB t M k := by
  unfold CB
  rw [show N.map (·.1) = M.map (·.1) from AaJ h]
  exact List.filter_congr fun x _ => by rw [Ov h]
theorem Ac8 {t : Tr} {N M : List TN} (h : kbs N = kbs M) (k : Vec 32) : mvOk t N k = mvOk t M k := by unfold mvOk; rw [I3 h, ZA h]
theorem FZ {t : Tr} {N M : List TN} (h : kbs N = kbs M) (k : Vec 32) : Bk t N k = Bk t M k := by unfold Bk; rw [D3 h, Ah5 h]
theorem W2 {t : Tr} {N M : List TN} (h : kbs N = kbs M) (V : List Vt) (k : Vec 32) : cntT t N V k = cntT t M V k := by
  unfold cntT
  exact Iz _ _ _ fun v _ => by rw [Ov h]
abbrev SM := Vec 32 → Option Sn
def updS (S : SM) (k : Vec 32) (x : Sn) : SM := fun k' => if k' = k then some x else S k'
structure PS where
  t : Tr
  N : List TN
  S : SM
  pos : Vec 32
  acc : List (Vec 32)
  rej : List (Vec 32)
  pol : List (Vec 32)
abbrev PS.best (V : List Vt) (s : PS) : Vec 32 × Int := B0 (cntT s.t s.N V) (Bk s.t s.N s.pos)
abbrev PS.moved (s : PS) (k : Vec 32) : PS := { s with t := mvT s.t s.N k, N := mvN s.t s.N k, pos := k, acc := s.acc ++ [k], rej := s.rej ++ CB s.t s.N k }
abbrev PS.polled (s : PS) (y : Sn) (k : Vec 32) : PS := { s with S := updS s.S s.pos y, pol := s.pos :: s.pol, pos := if s.pos ≠ s.t.root ∨ y.dn = false then k else s.pos }
noncomputable def pstep (p : Par) (V : List Vt) (s : PS) : Option PS :=
  match s.S s.pos with
  | none => none
  | some x =>
    if s.pos = s.t.root ∧ x.dn = true then some (s.moved (prf x))
    else if (s.best V).2 < p.2.1 then none
    else some (s.polled (B1 p x (s.best V).1 (s.best V).2).1 (s.best V).1)
structure PI (p : Par) (m : Nat) (s : PS) : Prop where
  tm : TM s.t s.N m
  par : parE p = 0
  may : ∀ k x, s.S k = some x → May p x
  no : ∀ k, has s.t s.N k = true → s.S k = none → Bk s.t s.N k = []
  kids : ∀ k x, has s.t s.N k = true → s.S k = some x → x.l.map (·.1) = Bk s.t s.N k
  pos : has s.t s.N s.pos = true
theorem W1 {p : Par} {x : Sn} (h : May p x) : prf x ∈ x.l.map (·.1) := by
  have key : ∀ id, 0 ≤ plc x.l id → id ∈ x.l.map (·.1) := fun id hid => by
    obtain ⟨i, c, _, hc, rfl, _⟩ := Js hid
    exact List.mem_map_of_mem (List.mem_of_getElem? hc)
  unfold prf
  cases x.dn with
  | true => exact key _ h.flake
  | false => exact key _ h.pref
theorem Ah0 {l : List Cho} {id : Id} (h : id ∈ l.map (·.1)) : 0 ≤ plc l id ∧ ∃ i c, plc l id = ((i : Nat) : Int) ∧ l[i]? = some c ∧ c.1 = id := by
  obtain ⟨c, hc, rfl⟩ := List.mem_map.1 h
  obtain ⟨i, hi⟩ := List.getElem?_of_mem hc
  have h0 := Ahs hi
  obtain ⟨j, d, h1, h2, h3, _⟩ := Js h0
  exact ⟨h0, j, d, h1, h2, h3⟩
theorem Abk {p : Par} {x : Sn} {id : Id} {n : Int} (h : May p x) (hid : id ∈ x.l.map (·.1)) (h0 : 0 ≤ n) (hn : n ≤ p.1) :
    (B1 p x id n).2 = 0 ∧ May p (B1 p x id n).1 ∧ (B1 p x id n).1.l.map (·.1) = x.l.map (·.1) ∧ (x.dn = true → (B1 p x id n).1 = x) ∧ (id = prf x → prf (B1 p x id n).1 = prf x) := by
  obtain ⟨hp0, i, c, hi, hc, rfl⟩ := Ah0 hid
  refine ⟨AgQ (Ft.2 h) h0 hn hp0, ?_⟩
  rcases AdL h hc h0 hn with ⟨hd, he⟩ | ⟨hd, _, he⟩ | ⟨hd, _, he⟩
  · rw [he]; exact ⟨h, rfl, fun _ => rfl, fun _ => rfl⟩
  · obtain ⟨h1, h2, h3, _⟩ := ZU h
    rw [he]
    exact ⟨h1, by rw [h2], fun h => (by rw [hd] at h; cases h), fun _ => h3⟩
  · obtain ⟨h1, h2, h3, h4⟩ := AiG h hc hd he
    refine ⟨h1, ?_, fun h => (by rw [hd] at h; cases h), fun hpf => ?_⟩
    · rw [h2, List.map_set]
      refine List.ext_getElem? fun j => ?_
      rw [List.getElem?_set]
      split
      · rename_i hj
        subst hj
        have hlt := (List.getElem?_eq_some_iff.1 hc).1
        have hcc : x.l[i] = c := (List.getElem?_eq_some_iff.1 hc).2
        simp [hlt, hcc]
      · rfl
    · have hpx : prf x = x.pref := by unfold prf; rw [hd]; rfl
      rw [hpx] at hpf ⊢
      unfold prf
      cases hdd : (B1 p x c.1 n).1.dn with
      | true => show (B1 p x c.1 n).1.flake = _; rw [h3, hpf]
      | false =>
        show (B1 p x c.1 n).1.pref = _
        rcases h4 with h4 | ⟨h4, _⟩
        · exact h4
        · rw [h4, hpf]
noncomputable def muP (m : Nat) (s : PS) : Nat :=
  s.N.length * (2 * m + 4) + 2 * (m - hgt s.t s.N s.pos) + (if s.pos = s.t.root ∧ ∃ x, s.S s.pos = some x ∧ x.dn = false then 1 else 0)
section
variable {p : Par} {V : List Vt} {m : Nat} {s s' : PS}
theorem PI.root_x {x : Sn} (h : PI p m s) (hr : s.pos = s.t.root) (hx : s.S s.pos = some x) : mvOk s.t s.N (prf x) = true ∧ Ba (prf x) s.N = some (nb (prf x) s.N).1 ∧ upOf (prf x) s.N = s.t.root := by
  have h1 := W1 (h.may _ _ hx)
  rw [h.kids _ _ h.pos hx, C3 h.tm.w h.tm.nd] at h1
  obtain ⟨_, h2, h3, h4⟩ := h1
  have hb := ED h2 h3
  refine ⟨?_, hb, h4.trans hr⟩
  unfold mvOk
  rw [hb, decide_eq_true (show (nb (prf x) s.N).1.p = s.t.root from h4.trans hr)]
  rfl
theorem PI.best_in {x : Sn} (h : PI p m s) (hV : BN V) (hs : sumV V ≤ p.1) (hx : s.S s.pos = some x) (hb : ¬ (s.best V).2 < p.2.1) :
    (s.best V).1 ∈ Bk s.t s.N s.pos ∧ cntT s.t s.N V (s.best V).1 = (s.best V).2 ∧ 0 ≤ (s.best V).2 ∧ (s.best V).2 ≤ p.1 ∧ (s.best V).1 ∈ x.l.map (·.1) := by
  obtain ⟨h1, h2, h3⟩ := Ahz (cntT s.t s.N V) (Bk s.t s.N s.pos)
  obtain ⟨q1, q2, q3, _⟩ := EZ h.par
  have h0 : 0 < (s.best V).2 := by show 0 < (B0 _ _).2; have : ¬ (B0 (cntT s.t s.N V) (Bk s.t s.N s.pos)).2 < p.2.1 := hb; omega
  obtain ⟨h4, h5⟩ := h2 h0
  have h6 := (V6 (t := s.t) (N := s.N) hV (s.best V).1).2
  refine ⟨h4, h5, h1, ?_, by rw [h.kids _ _ h.pos hx]; exact h4⟩
  have : cntT s.t s.N V (s.best V).1 = (s.best V).2 := h5
  omega
theorem L9 (h : PI p m s) (hV : BN V) (hs : sumV V ≤ p.1) (he : pstep p V s = some s') : PI p m s' ∧ muP m s' < muP m s := by
  unfold pstep at he
  cases hx : s.S s.pos with
  | none => rw [hx] at he; cases he
  | some x =>
    rw [hx] at he
    simp only at he
    split at he
    · rename_i hc
      obtain ⟨hr, hd⟩ := hc
      obtain ⟨hk, hkb, hkp⟩ := h.root_x hr hx
      simp only [Option.some.injEq] at he
      subst he
      have hw := h.tm.w
      refine ⟨⟨h.tm.move hk, h.par, h.may, fun k hh hn => ?_, fun k y hh hy => ?_, Db (.inl rfl)⟩, ?_⟩
      · have hu : under s.t s.N k (prf x) = true := by rw [← FU hw hk]; exact hh
        show Bk (mvT s.t s.N (prf x)) (mvN s.t s.N (prf x)) k = []
        rw [Adh hw h.tm.nd hk hu]
        exact h.no k (CC hu).1 hn
      · have hu : under s.t s.N k (prf x) = true := by rw [← FU hw hk]; exact hh
        show _ = Bk (mvT s.t s.N (prf x)) (mvN s.t s.N (prf x)) k
        rw [Adh hw h.tm.nd hk hu]
        exact h.kids k y (CC hu).1 hy
      · have hl := Aip hw hk
        unfold muP
        show (mvN s.t s.N (prf x)).length * (2 * m + 4) + 2 * (m - hgt (mvT s.t s.N (prf x)) (mvN s.t s.N (prf x)) (prf x)) + _ < _
        have h2 : ((mvN s.t s.N (prf x)).length + 1) * (2 * m + 4) ≤ s.N.length * (2 * m + 4) := Nat.mul_le_mul_right _ hl
        rw [Nat.add_mul, Nat.one_mul] at h2
        split <;> omega
    · rename_i hc
      split at he
      · cases he
      · rename_i hb
        simp only [Option.some.injEq] at he
        obtain ⟨h1, h2, h3, h4, h5⟩ := h.best_in hV hs hx hb
        obtain ⟨e1, e2, e3, e4, _⟩ := Abk (h.may _ _ hx) h5 h3 h4
        obtain ⟨k1, k2, k3, k4⟩ := (C3 h.tm.w h.tm.nd).1 h1
        generalize hy : (B1 p x (s.best V).1 (s.best V).2).1 = y at *
        have hkh := Lf h.tm.w h.tm.nd h1
        generalize hkk : (s.best V).1 = kk at *
        subst he
        have hS : ∀ k z, updS s.S s.pos y k = some z → (k = s.pos ∧ z = y) ∨ (k ≠ s.pos ∧ s.S k = some z) := fun k z hz => by
          unfold updS at hz
          split at hz
          · rename_i hk
            exact .inl ⟨hk, (by simpa using hz.symm)⟩
          · rename_i hk
            exact .inr ⟨hk, hz⟩
        refine ⟨⟨h.tm, h.par, fun k z hz => ?_, fun k hh hn => ?_, fun k z hh hz => ?_, ?_⟩, ?_⟩
        · rcases hS k z hz with ⟨_, rfl⟩ | ⟨_, hz⟩
          · exact e2
          · exact h.may k z hz
        · have hn : updS s.S s.pos y k = none := hn
          unfold updS at hn
          split at hn
          · cases hn
          · exact h.no k hh hn
        · rcases hS k z hz with ⟨rfl, rfl⟩ | ⟨_, hz⟩
          · rw [e3]; exact h.kids _ _ h.pos hx
          · exact h.kids k z hh hz
        · show has s.t s.N (if s.pos ≠ s.t.root ∨ y.dn = false then kk else s.pos) = true
          split
          · exact k2
          · exact h.pos
        · have hm := h.tm.hb kk k2
          have eN : (s.polled y kk).N = s.N := rfl
          unfold muP
          rw [eN]
          by_cases hq : s.pos ≠ s.t.root ∨ y.dn = false
          · show _ * _ + 2 * (m - hgt s.t s.N (if s.pos ≠ s.t.root ∨ y.dn = false then kk else s.pos)) + _ < _
            rw [if_pos hq]
            split <;> split <;> omega
          · have hr : s.pos = s.t.root := Classical.not_not.1 fun hh => hq (.inl hh)
            have hyd : y.dn = true := by
              cases hd : y.dn with
              | true => rfl
              | false => exact absurd (.inr hd) hq
            have hxd : x.dn = false := by
              cases hd : x.dn with
              | false => rfl
              | true => exact absurd ⟨hr, hd⟩ hc
            have ep : (s.polled y kk).pos = s.pos := by
              show (if s.pos ≠ s.t.root ∨ y.dn = false then kk else s.pos) = s.pos
              rw [if_neg hq]
            have et : (s.polled y kk).t = s.t := rfl
            have hA : ¬ (s.pos = s.t.root ∧ ∃ x, (s.polled y kk).S s.pos = some x ∧ x.dn = false) := by
              rintro ⟨_, z, hz, hzd⟩
              have hz : updS s.S s.pos y s.pos = some z := hz
              unfold updS at hz
              rw [if_pos rfl] at hz
              simp only [Option.some.injEq] at hz
              rw [← hz, hyd] at hzd
              cases hzd
            have hB : s.pos = s.t.root ∧ ∃ x, s.S s.pos = some x ∧ x.dn = false := ⟨hr, x, hx, hxd⟩
            rw [ep, et, if_neg hA, if_pos hB]
            omega
end
inductive CH (p : Par) (V : List Vt) : PS → PS → Prop
  | refl (a : PS) : CH p V a a
  | step {a b c : PS} : CH p V a b → pstep p V b = some c → CH p V a c
theorem CH.head {p : Par} {V : List Vt} {a b : PS} (h : CH p V a b) : a = b ∨ ∃ d, pstep p V a = some d ∧ CH p V d b := by
  induction h with
  | refl => exact .inl rfl
  | step h1 h2 ih =>
    rcases ih with rfl | ⟨d, hd, hr⟩
    · exact .inr ⟨_, h2, .refl _⟩
    · exact .inr ⟨d, hd, hr.step h2⟩
theorem CH.conf {p : Par} {V : List Vt} {a b c : PS} (h1 : CH p V a b) (h2 : CH p V a c) : CH p V b c ∨ CH p V c b := by
  induction h2 with
  | refl => exact .inr h1
  | step h3 h4 ih =>
    rcases ih with ih | ih
    · exact .inl (ih.step h4)
    · rcases ih.head with rfl | ⟨d, hd, hr⟩
      · exact .inl (.step (.refl _) h4)
      · rw [h4] at hd
        cases hd
        exact .inr hr
theorem CH.one {p : Par} {V : List Vt} {a b c : PS} (h1 : CH p V a b) (h2 : CH p V a c) (hb : pstep p V b = none) (hc : pstep p V c = none) : b = c := by
  rcases h1.conf h2 with h | h
  · rcases h.head with h | ⟨d, hd, _⟩
    · exact h
    · rw [hb] at hd; cases hd
  · rcases h.head with h | ⟨d, hd, _⟩
    · exact h.symm
    · rw [hc] at hd; cases hd
theorem CH.pi {p : Par} {V : List Vt} {m : Nat} {a b : PS} (h : CH p V a b) (hi : PI p m a) (hV : BN V) (hs : sumV V ≤ p.1) : PI p m b := by
  induction h with
  | refl => exact hi
  | step _ h2 ih => exact (L9 ih hV hs h2).1
structure TpI (p : Par) (m : Nat) (t : Tr) (N : List TN) (S : SM) : Prop where
  tm : TM t N m
  par : parE p = 0
  may : ∀ k x, S k = some x → May p x
  no : ∀ k, has t N k = true → S k = none → Bk t N k = []
  kids : ∀ k x, S k = some x → has t N k = true ∧ x.l.map (·.1) = Bk t N k
  undone : ∀ x, S t.root = some x → x.dn = false
def ps0 (t : Tr) (N : List TN) (S : SM) : PS := ⟨t, sN N, S, t.root, [], [], []⟩
theorem TM.strip {t : Tr} {N : List TN} {m : Nat} (h : TM t N m) : TM t (sN N) m := h.kb (D2 N).symm
theorem TpI.pi {p : Par} {m : Nat} {t : Tr} {N : List TN} {S : SM} (h : TpI p m t N S) : PI p m (ps0 t N S) :=
  ⟨h.tm.strip, h.par, h.may, fun k hk hn => by
    have hk : has t (sN N) k = true := hk
    rw [D3 (D2 N)] at hk
    show Bk t (sN N) k = []
    rw [FZ (D2 N)]
    exact h.no k hk hn, fun k x hk hx => by
    show _ = Bk t (sN N) k
    rw [FZ (D2 N)]
    exact (h.kids k x hx).2, Ii⟩
noncomputable def Fo (p : Par) (t : Tr) (N : List TN) (S : SM) (pol : List (Vec 32)) : SM := fun k => if has t N k = true then (S k).map fun x => if k ∈ pol then x else (BC p x).1 else none
theorem PI.fails {p : Par} {m : Nat} {s : PS} (h : PI p m s) (V : List Vt) (hend : pstep p V s = none) (hr : ∀ x, s.S s.t.root = some x → x.dn = false) {N : List TN} (hN : s.N = sN N) : TpI p m s.t N (Fo p s.t s.N s.S s.pol) := by
  have hk : kbs N = kbs s.N := by rw [hN, D2]
  have key : ∀ k x, Fo p s.t s.N s.S s.pol k = some x → has s.t s.N k = true ∧ ∃ y, s.S k = some y ∧ May p x ∧ x.l = y.l ∧ x.dn = y.dn := fun k x hx => by
    unfold Fo at hx
    split at hx
    · rename_i hh
      cases hy : s.S k with
      | none => rw [hy] at hx; cases hx
      | some y =>
        rw [hy] at hx
        simp only [Option.map_some, Option.some.injEq] at hx
        have hm := h.may k y hy
        refine ⟨hh, y, rfl, ?_⟩
        split at hx
        · subst hx; exact ⟨hm, rfl, rfl⟩
        · obtain ⟨f1, f2, _, _, f5, _⟩ := ZU hm
          subst hx
          exact ⟨f1, f2, f5⟩
    · cases hx
  refine ⟨h.tm.kb hk.symm, h.par, fun k x hx => ?_, fun k hh hn => ?_, fun k x hx => ?_, fun x hx => ?_⟩
  · obtain ⟨_, y, _, h2, _⟩ := key k x hx
    exact h2
  · rw [D3 hk] at hh
    rw [FZ hk]
    refine h.no k hh ?_
    unfold Fo at hn
    rw [if_pos hh] at hn
    simpa using hn
  · obtain ⟨hh, y, hy, _, hl, _⟩ := key k x hx
    rw [D3 hk, FZ hk, hl]
    exact ⟨hh, h.kids k y hh hy⟩
  · obtain ⟨_, y, hy, _, _, hd⟩ := key s.t.root x hx
    rw [hd]
    exact hr y hy
def RD (s : PS) : Prop := ∀ x, s.S s.t.root = some x → x.dn = true → s.pos = s.t.root
theorem AgS {p : Par} {V : List Vt} {s s' : PS} (h : RD s) (he : pstep p V s = some s') : RD s' := by
  unfold pstep at he
  cases hx : s.S s.pos with
  | none => rw [hx] at he; cases he
  | some x =>
    rw [hx] at he
    simp only at he
    split at he
    · simp only [Option.some.injEq] at he
      subst he
      exact fun _ _ _ => rfl
    · rename_i hc
      split at he
      · cases he
      · simp only [Option.some.injEq] at he
        subst he
        intro y hy hyd
        generalize (B1 p x (s.best V).1 (s.best V).2).1 = z at *
        have hy : updS s.S s.pos z s.t.root = some y := hy
        show (if s.pos ≠ s.t.root ∨ z.dn = false then (s.best V).1 else s.pos) = s.t.root
        unfold updS at hy
        by_cases hr : s.t.root = s.pos
        · rw [if_pos hr] at hy
          simp only [Option.some.injEq] at hy
          subst hy
          rw [if_neg (by rintro (h | h); · exact h hr.symm
                         · rw [hyd] at h; cases h)]
          exact hr.symm
        · rw [if_neg hr] at hy
          exact absurd (h y hy hyd).symm hr
theorem CH.rd {p : Par} {V : List Vt} {a b : PS} (h : CH p V a b) (hi : RD a) : RD b := by
  induction h with
  | refl => exact hi
  | step _ h2 ih => exact AgS ih h2
theorem AhK {p : Par} {V : List Vt} {s : PS} (h : RD s) (he : pstep p V s = none) : ∀ x, s.S s.t.root = some x → x.dn = false := fun x hx => by
  cases hd : x.dn with
  | false => rfl
  | true =>
    exfalso
    have hp := h x hx hd
    unfold pstep at he
    rw [hp, hx] at he
    simp only at he
    rw [if_pos ⟨trivial, hd⟩] at he
    cases he
theorem Aih {p : Par} {m : Nat} {t : Tr} {N : List TN} {S : SM} (h : TpI p m t N S) : RD (ps0 t N S) := fun _ _ _ => rfl
def B5 (t : Tr) (N : List TN) (S : SM) (b : Blk) : Int := if addE t N b ≠ 0 then addE t N b else match S b.p with
  | some x => if 32 ≤ x.l.length then 6 else 0
  | none => 0
def Hn (p : Par) (S : SM) (b : Blk) (k : Vec 32) : SM := updS S b.p (match S b.p with
  | some x => { x with l := x.l ++ [(k, 0)] }
  | none => (newM p k).1)
theorem AaW {t : Tr} {N : List TN} {S : SM} {b : Blk} (h : B5 t N S b = 0) : addE t N b = 0 ∧ ∀ x, S b.p = some x → x.l.length < 32 := by
  unfold B5 at h
  split at h
  · rename_i h1; exact absurd h h1
  · rename_i h1
    refine ⟨by simpa using h1, fun x hx => ?_⟩
    rw [hx] at h
    simp only at h
    split at h
    · cases h
    · omega
theorem XN {t : Tr} {N : List TN} {x : TN} {k : Vec 32} (hk : has t N k = true) : Bk t (N ++ [x]) k = Bk t N k ++ if x.2.1.p = k then [x.1] else [] := by
  unfold Bk
  rw [if_pos hk, if_pos (Ji hk).1, List.filter_append]
  by_cases hp : x.2.1.p = k <;> simp [hp, nms]
theorem TpI.addx {p : Par} {m : Nat} {t : Tr} {N : List TN} {S : SM} {b : Blk} {vd : Value} {c : Nat} (h : TpI p m t N S) (he : B5 t N S b = 0) (hm : b.h ≤ maxI) :
    TpI p (m + 1) t (N ++ [(b.id, b, vd, c)]) (Hn p S b b.id) := by
  obtain ⟨h1, h2⟩ := AaW he
  obtain ⟨a1, a2, a3, a4, a5, a6⟩ := Li h1
  have hnew : ∀ k, has t (N ++ [(b.id, b, vd, c)]) k = true → has t N k = true ∨ k = b.id := fun k hk => by
    rcases RS hk with rfl | hk
    · exact .inl Ii
    · rw [List.map_append, List.mem_append] at hk
      rcases hk with hk | hk
      · exact .inl (Db (.inr hk))
      · exact .inr (by simpa using hk)
  have hS : ∀ k y, Hn p S b b.id k = some y → (k = b.p ∧ May p y ∧ y.l.map (·.1) = Bk t N b.p ++ [b.id] ∧ (k = t.root → y.dn = false)) ∨ (k ≠ b.p ∧ S k = some y) := fun k y hy => by
    unfold Hn updS at hy
    split at hy
    · rename_i hk
      left
      refine ⟨hk, ?_⟩
      simp only [Option.some.injEq] at hy
      cases hx : S b.p with
      | some x =>
        rw [hx] at hy
        simp only at hy
        subst hy
        have hmay := h.may _ x hx
        obtain ⟨_, hkx⟩ := h.kids _ x hx
        refine ⟨?_, by show (x.l ++ [(b.id, 0)]).map (fun c : Cho => c.1) = _; rw [List.map_append, hkx]; rfl, fun hr => h.undone x (by rw [← hr, hk]; exact hx)⟩
        have hno : ¬ 0 ≤ plc x.l b.id := fun hp => by
          obtain ⟨i, d, _, hd, hd1, _⟩ := Js hp
          have : b.id ∈ x.l.map (·.1) := by rw [← hd1]; exact List.mem_map_of_mem (List.mem_of_getElem? hd)
          rw [hkx, C3 h.tm.w h.tm.nd, a2] at this
          cases this.2.1
        rcases W9 (id := b.id) hmay with hq | ⟨_, hq⟩
        · exfalso
          apply hq
          have := h2 x hx
          rw [addM, if_neg (by simpa using Ft.2 hmay), if_neg hno, if_neg (by omega)]
        · exact hq
      | none =>
        rw [hx] at hy
        simp only at hy
        subst hy
        obtain ⟨n1, _, n3, _⟩ := WK (id := b.id) h.par
        refine ⟨n1, ?_, fun _ => n3⟩
        rw [h.no b.p a3 hx]
        unfold newM
        rw [if_neg (by simpa using h.par)]
        rfl
    · rename_i hk
      exact .inr ⟨hk, hy⟩
  have hkid : ∀ k, has t N k = true → k ≠ b.p → Bk t (N ++ [(b.id, b, vd, c)]) k = Bk t N k := fun k hk hne => by
    rw [XN hk, if_neg (Ne.symm hne), List.append_nil]
  refine ⟨h.tm.add h1 hm, h.par, fun k y hy => ?_, fun k hk hn => ?_, fun k y hy => ?_, fun y hy => ?_⟩
  · rcases hS k y hy with ⟨_, hy, _⟩ | ⟨_, hy⟩
    · exact hy
    · exact h.may k y hy
  · have hkp : k ≠ b.p ∧ S k = none := by
      unfold Hn updS at hn
      split at hn
      · cases hn
      · rename_i hq; exact ⟨hq, hn⟩
    rcases hnew k hk with hk' | rfl
    · rw [hkid k hk' hkp.1]
      exact h.no k hk' hkp.2
    · unfold Bk
      rw [if_pos hk]
      have : (N ++ [(b.id, b, vd, c)]).filter (fun x => decide (x.2.1.p = b.id)) = [] := by
        rw [List.filter_eq_nil_iff]
        intro x hx
        simp only [decide_eq_true_eq]
        intro hp
        rcases List.mem_append.1 hx with hx | hx
        · have hx1 : Bx x.1 N = some x := T3 h.tm.nd hx
          have := (h.tm.w.up x.1 x.2.1 (by unfold Ba; rw [hx1]; rfl)).1
          rw [hp, a2] at this
          cases this
        · obtain rfl : x = (b.id, b, vd, c) := by simpa using hx
          have hp : b.p = b.id := hp
          rw [hp, a2] at a3
          cases a3
      rw [this]
      rfl
  · rcases hS k y hy with ⟨rfl, _, hl, _⟩ | ⟨hne, hy⟩
    · exact ⟨(Ji a3).1, by rw [XN a3, if_pos rfl]; exact hl⟩
    · obtain ⟨q1, q2⟩ := h.kids k y hy
      exact ⟨(Ji q1).1, by rw [hkid k q1 hne]; exact q2⟩
  · rcases hS t.root y hy with ⟨_, _, _, hd⟩ | ⟨_, hy⟩
    · exact hd rfl
    · exact h.undone y hy
inductive CL (S : SM) : Vec 32 → Vec 32 → Prop
  | refl (a : Vec 32) : CL S a a
  | step {a b : Vec 32} {x : Sn} : CL S a b → S b = some x → CL S a (prf x)
def ID (t : Tr) (S : SM) (k : Vec 32) : Prop := CL S t.root k ∧ S k = none
theorem CL.head {S : SM} {a b : Vec 32} (h : CL S a b) : a = b ∨ ∃ x, S a = some x ∧ CL S (prf x) b := by
  induction h with
  | refl => exact .inl rfl
  | step h1 h2 ih =>
    rcases ih with rfl | ⟨d, hd, hr⟩
    · exact .inr ⟨_, h2, .refl _⟩
    · exact .inr ⟨d, hd, hr.step h2⟩
theorem CL.conf {S : SM} {a b c : Vec 32} (h1 : CL S a b) (h2 : CL S a c) : CL S b c ∨ CL S c b := by
  induction h2 with
  | refl => exact .inr h1
  | step h3 h4 ih =>
    rcases ih with ih | ih
    · exact .inl (ih.step h4)
    · rcases ih.head with rfl | ⟨d, hd, hr⟩
      · exact .inl (.step (.refl _) h4)
      · rw [h4] at hd
        cases hd
        exact .inr hr
theorem ID.one {t : Tr} {S : SM} {b c : Vec 32} (h1 : ID t S b) (h2 : ID t S c) : b = c := by
  rcases h1.1.conf h2.1 with h | h
  · rcases h.head with h | ⟨d, hd, _⟩
    · exact h
    · rw [h1.2] at hd; cases hd
  · rcases h.head with h | ⟨d, hd, _⟩
    · exact h.symm
    · rw [h2.2] at hd; cases hd
theorem TpI.pref_step {p : Par} {m : Nat} {t : Tr} {N : List TN} {S : SM} {k : Vec 32} {x : Sn} (h : TpI p m t N S) (hx : S k = some x) : has t N (prf x) = true ∧ prf x ≠ t.root ∧ upOf (prf x) N = k ∧ hgt t N (prf x) = hgt t N k + 1 := by
  obtain ⟨h1, h2⟩ := h.kids k x hx
  have h3 := W1 (h.may k x hx)
  rw [h2] at h3
  have h4 := Lf h.tm.w h.tm.nd h3
  obtain ⟨_, q2, q3, q4⟩ := (C3 h.tm.w h.tm.nd).1 h3
  exact ⟨q2, q3, q4, h4⟩
theorem TpI.pref_has {p : Par} {m : Nat} {t : Tr} {N : List TN} {S : SM} {k : Vec 32} (h : TpI p m t N S) (hk : CL S t.root k) : has t N k = true := by
  rcases hk with _ | ⟨h1, h2⟩
  · exact Ii
  · exact (h.pref_step h2).1
end Go.Fx
namespace Go.Fx
theorem CL.mono {S S' : SM} {a b : Vec 32} (hS : ∀ k x, CL S a k → S k = some x → ∃ y, S' k = some y ∧ prf y = prf x) (h : CL S a b) : CL S' a b := by
  induction h with
  | refl => exact .refl _
  | step h1 h2 ih =>
    obtain ⟨y, hy, he⟩ := hS _ _ h1 h2
    rw [← he]
    exact ih.step hy
section
variable {p : Par} {V : List Vt} {m : Nat} {t : Tr} {N : List TN} {S : SM}
end
def Cond (p : Par) (V : List Vt) (t : Tr) (N : List TN) (b : Vec 32) : Prop := ∀ q k, under t N b q = true → q ≠ b → k ∈ Bk t N q → under t N b k = false → cntT t N V k < p.2.1
structure StI (p : Par) (V : List Vt) (b : Vec 32) (s : PS) : Prop where
  pref : CL s.S s.t.root b
  nr : b ≠ s.t.root
  pos : under s.t s.N b s.pos = true ∨ (under s.t s.N s.pos b = true)
  cond : Cond p V s.t s.N b
theorem PI.pref_step {p : Par} {m : Nat} {s : PS} {k : Vec 32} {x : Sn} (h : PI p m s) (hk : has s.t s.N k = true) (hx : s.S k = some x) : has s.t s.N (prf x) = true ∧ prf x ≠ s.t.root ∧ upOf (prf x) s.N = k ∧ hgt s.t s.N (prf x) = hgt s.t s.N k + 1 := by
  have h3 := W1 (h.may k x hx)
  rw [h.kids k x hk hx] at h3
  have h4 := Lf h.tm.w h.tm.nd h3
  obtain ⟨_, q2, q3, q4⟩ := (C3 h.tm.w h.tm.nd).1 h3
  exact ⟨q2, q3, q4, h4⟩
theorem PI.pref_has {p : Par} {m : Nat} {s : PS} {a b : Vec 32} (h : PI p m s) (ha : has s.t s.N a = true) (hb : CL s.S a b) : has s.t s.N b = true ∧ under s.t s.N b a = true := by
  induction hb with
  | refl => exact ⟨ha, IK h.tm.w ha⟩
  | step h1 h2 ih =>
    obtain ⟨q1, q2, q3, _⟩ := h.pref_step ih.1 h2
    exact ⟨q1, by rw [C4 h.tm.w q1 q2, q3, ih.2]; simp⟩
end Go.Fx
namespace Go.Fx
section
variable {P : Program} {T E n : Nat} {w0 w : World} {As : List Asn}
theorem Adz : ∀ (l : List UInt8) (m : Nat), ((bvs l).zip (bvs l)).all (fun x => Instr.sameBits (m + 1) x.1 x.2) = true
  | [], m => rfl
  | b :: l, m => by
    have ih := Adz l m
    unfold bvs at ih ⊢
    rw [List.map_cons, List.zip_cons_cons, List.all_cons, ih]
    simp [Instr.sameBits, bv]
theorem Ag3 (k : Vec n) (m : Nat) : Instr.sameBits (m + 2) (kv k) (kv k) = true := by
  show (((bvs k.1).toArray.size == (bvs k.1).toArray.size) && ((bvs k.1).toArray.toList.zip (bvs k.1).toArray.toList).all fun x => Instr.sameBits (m + 1) x.1 x.2) = true
  rw [List.toList_toArray, Adz]
  simp
theorem Yc (k : Vec n) : (Instr.keyThatStays (kv k) (kv k)).run P w = .ok (kv k) w := by
  unfold Instr.keyThatStays
  rw [if_pos (Ag3 k 9998)]
  rfl
def updE (k : Vec n) (v : Value) : List (Ent n) → List (Ent n)
  | [] => []
  | x :: l => if k = x.1 then (k, v, x.2.2) :: l else x :: updE k v l
theorem QT (k : Vec n) (v : Value) : ∀ l : List (Ent n), (updE k v l).map (·.2.2) = l.map (·.2.2)
  | [] => rfl
  | x :: l => by
    unfold updE
    split
    · rfl
    · rw [List.map_cons, QT k v l, List.map_cons]
theorem TS (k : Vec n) (v : Value) (k' : Vec n) : ∀ l : List (Ent n), (getE k l).isSome = true → getE k' (updE k v l) = if k' = k then some v else getE k' l
  | [], h => by simp [getE] at h
  | x :: l, h => by
    unfold updE
    by_cases hk : k = x.1
    · rw [if_pos hk]
      by_cases hk' : k' = k
      · unfold getE; rw [List.find?_cons_of_pos (by simpa using hk'), if_pos hk']; rfl
      · unfold getE
        rw [if_neg hk', List.find?_cons_of_neg (by simpa using hk'), List.find?_cons_of_neg (by rw [← hk]; simpa using hk')]
    · have h1 : (getE k l).isSome = true := by
        unfold getE at h ⊢
        rwa [List.find?_cons_of_neg (by simpa using hk)] at h
      have ih := TS k v k' l h1
      rw [if_neg hk]
      unfold getE at ih ⊢
      by_cases hx : k' = x.1
      · rw [List.find?_cons_of_pos (by simpa using hx), List.find?_cons_of_pos (by simpa using hx), if_neg (by rw [hx]; exact fun he => hk he.symm)]
      · rw [List.find?_cons_of_neg (by simpa using hx), List.find?_cons_of_neg (by simpa using hx)]
        exact ih
theorem T1 (k : Vec n) : ∀ (l : List (Ent n)) (i j : Nat) (y : Value), CX k l i = some (j, y) → i ≤ j
  | [], i, j, y, h => by simp [CX] at h
  | x :: l, i, j, y, h => by
    unfold CX at h
    split at h
    · simp only [Option.some.injEq, Prod.mk.injEq] at h; omega
    · have := T1 k l (i + 1) j y h; omega
theorem PW (k : Vec n) : ∀ (l : List (Ent n)) (i j : Nat) (y : Value), CX k l i = some (j, y) → ∃ x, l[j - i]? = some x ∧ x.1 = k ∧ x.2.1 = y
  | [], i, j, y, h => by simp [CX] at h
  | x :: l, i, j, y, h => by
    unfold CX at h
    split at h
    · rename_i hk
      simp only [Option.some.injEq, Prod.mk.injEq] at h
      refine ⟨x, ?_, hk.symm, h.2⟩
      rw [show j - i = 0 by omega]; rfl
    · have hg := T1 k l (i + 1) j y h
      obtain ⟨z, hz, h2⟩ := PW k l (i + 1) j y h
      refine ⟨z, ?_, h2⟩
      rw [show j - i = (j - (i + 1)) + 1 by omega]
      exact hz
theorem Ul (k : Vec n) (v : Value) : ∀ (l : List (Ent n)) (i j : Nat) (y : Value), CX k l i = some (j, y) → (l.map entM).modify (j - i) (fun e => { e with key := kv k, val := v }) = (updE k v l).map entM
  | [], i, j, y, h => by simp [CX] at h
  | x :: l, i, j, y, h => by
    unfold CX at h
    unfold updE
    split at h
    · rename_i hk
      simp only [Option.some.injEq, Prod.mk.injEq] at h
      rw [if_pos hk, show j - i = 0 by omega]
      rfl
    · rename_i hk
      have hg := T1 k l (i + 1) j y h
      have ih := Ul k v l (i + 1) j y h
      rw [if_neg hk, show j - i = (j - (i + 1)) + 1 by omega, List.map_cons, List.modify_succ_cons, ih, List.map_cons]
structure MOk (l : List (Ent n)) (c : Nat) : Prop where
  nd : (l.map (·.2.2)).Nodup
  lt : ∀ x ∈ l, x.2.2 < c
theorem MOk.nil : MOk ([] : List (Ent n)) 0 := ⟨by simp, fun x hx => by cases hx⟩
theorem MOk.push {l : List (Ent n)} {c : Nat} (h : MOk l c) (k : Vec n) (v : Value) : MOk (l ++ [(k, v, c)]) (c + 1) := by
  refine ⟨?_, fun x hx => ?_⟩
  · rw [List.map_append, List.nodup_append]
    refine ⟨h.nd, by simp, fun x hx y hy he => ?_⟩
    simp only [List.map_cons, List.map_nil, List.mem_singleton] at hy
    subst hy
    obtain ⟨z, hz, rfl⟩ := List.mem_map.1 hx
    have := h.lt z hz
    omega
  · rcases List.mem_append.1 hx with hx | hx
    · have := h.lt x hx; omega
    · obtain rfl : x = (k, v, c) := by simpa using hx
      show c < c + 1
      omega
theorem MOk.upd {l : List (Ent n)} {c : Nat} (h : MOk l c) (k : Vec n) (v : Value) : MOk (updE k v l) c := by
  refine ⟨by rw [QT]; exact h.nd, fun x hx => ?_⟩
  have h1 : x.2.2 ∈ (updE k v l).map (·.2.2) := List.mem_map_of_mem hx
  rw [QT] at h1
  obtain ⟨z, hz, he⟩ := List.mem_map.1 h1
  have := h.lt z hz
  omega
theorem Aae (k : Vec n) (v : Value) (c : Nat) {l : List (Ent n)} (hn : getE k l = none) (k' : Vec n) : getE k' (l ++ [(k, v, c)]) = if k' = k then some v else getE k' l := by
  unfold getE at hn ⊢
  rw [Option.map_eq_none_iff] at hn
  rw [List.find?_append]
  by_cases hk : k' = k
  · subst hk
    rw [hn, if_pos rfl]
    simp
  · rw [if_neg hk, List.find?_cons_of_neg (by simpa using hk)]
    simp
def MpR (h : Heap) (g : Nat) (f : Vec n → Option Value) : Prop := ∃ l c, MOk l c ∧ (∀ k, getE k l = f k) ∧ h[g]? = some (.map (ents l) c)
def mpF (g : Nat) (f : Vec n → Option Value) : Asn := Asn.ex fun l => Asn.ex fun c => (Asn.pr (MOk l c ∧ ∀ k, getE k l = f k)).star (mp g l c)
def updF (f : Vec n → Option Value) (k : Vec n) (v : Value) : Vec n → Option Value := fun k' => if k' = k then some v else f k'
theorem Aai {g : Nat} {f : Vec n → Option Value} (h : Sep w0 w (mpF g f :: As)) : ∃ l c, (MOk l c ∧ ∀ k, getE k l = f k) ∧ Sep w0 w (mp g l c :: As) := by
  unfold mpF at h
  rw [HT] at h
  obtain ⟨l, h⟩ := h
  rw [HT] at h
  obtain ⟨c, h⟩ := h
  rw [Jq, Nm] at h
  exact ⟨l, c, h.1, h.2⟩
theorem QG {g c : Nat} {f : Vec n → Option Value} {l : List (Ent n)} (hl : MOk l c ∧ ∀ k, getE k l = f k) (h : Sep w0 w (mp g l c :: As)) : Sep w0 w (mpF g f :: As) := by
  unfold mpF
  rw [HT]
  refine ⟨l, ?_⟩
  rw [HT]
  exact ⟨c, by rw [Jq, Nm]; exact ⟨hl, h⟩⟩
theorem Abg {g : Nat} {f : Vec n → Option Value} (h : Sep w0 w (mpF g f :: As)) : MpR w.heap g f := by
  obtain ⟨l, c, hl, hs⟩ := Aai h
  exact ⟨l, c, hl.1, hl.2, hs.map⟩
theorem Adf {t : TypeId} {K : Value → World → Prop} (hs : Sep w0 w As) (h : ∀ g w', Sep w0 w' (mpF (n := n) g (fun _ => none) :: As) → K (.map (some g)) w') : efP P (Instr.makeMap t none) w K :=
  J1 (n := n) hs fun g w' hs' => h g w' (QG ⟨MOk.nil, fun _ => rfl⟩ hs')
theorem WI {M V g : Nat} {f : Vec n → Option Value} {z : Value} (hM : P.underlying M = some (.map T V)) (hT : KeyT P T E n) (hz : ∀ w : World, (zeroValue V).run P w = .ok z w) (hg : MpR w.heap g f) (k : Vec n) (K : Value → Prop) :
    rdP P (Instr.lookup M (.map (some g)) (kv k) false) w K = K ((f k).getD z) := by
  obtain ⟨l, c, _, hf, hm⟩ := hg
  rw [Tw hM hT (hz w) hm k, hf]
theorem Ae5 {M V g : Nat} {f : Vec n → Option Value} {k : Vec n} {v : Value} {K : World → Prop} (hM : P.underlying M = some (.map T V)) (hT : KeyT P T E n) (hs : Sep w0 w (mpF g f :: As))
    (h : ∀ w', Sep w0 w' (mpF g (updF f k v) :: As) → K w') : efU P (Instr.mapUpdate M (.map (some g)) (kv k) v) w K := by
  obtain ⟨l, c, ⟨hok, hf⟩, hs⟩ := Aai hs
  cases hk : getE k l with
  | none => exact N7 hM hT hs hk fun w' hs' => h w' (QG ⟨hok.push k v, fun k' => by rw [Aae k v c hk]; unfold updF; rw [hf]⟩ hs')
  | some y =>
    have hg := hs.map
    obtain ⟨F, ⟨hb, rfl⟩, hu⟩ := hs.upd
    have hfe := Ix k l 0
    rw [hk] at hfe
    obtain ⟨⟨i, y'⟩, hfi, _⟩ := Option.map_eq_some_iff.1 hfe
    obtain ⟨x, hx, hxk, _⟩ := PW k l 0 i y' hfi
    have hm := Ul k v l 0 i y' hfi
    rw [Nat.sub_zero] at hx hm
    have e2 : (ents l).modify i (fun e => { e with key := kv k, val := v }) = ents (updE k v l) := by
      apply Array.ext'
      unfold ents
      rw [Array.toList_modify]
      exact hm
    refine ⟨Cj w g (.map (ents (updE k v l)) c), ?_, h _ (QG ⟨hok.upd k v, fun k' => by rw [TS k v k' l (by rw [hk]; rfl)]; unfold updF; rw [hf]⟩ (hu _ [g] (mp g _ _) ⟨DA w g _ _ hb, rfl⟩ (Ey w g _) (Grew.refl _ _)))⟩
    have e1 : (((ents l)[i]?).map (·.key)).getD (kv k) = kv k := by
      unfold ents
      rw [List.getElem?_toArray, List.getElem?_map, hx]
      show kv x.1 = kv k
      rw [hxk]
    unfold Instr.mapUpdate
    simp only [Sem.run_bind, run_underlying hM, Result.andThen_ok, Is hg, Lg hT k _ 9998, Gk hT k l, hfi, e1, Yc]
    rw [← e2]
    exact NP _ hg
end
end Go.Fx
