/-
  What is proved: for all arguments the law TopoClones returns true, and its arguments read as they did. Conditions: none.
-/
import Derived.Test.YtpdnddcodnpmeaaGreatDoorRows
import Derived.WalkKit
import Derived.ProofKit
import Derived.OpenShut
import Derived.ChangeOld
import Derived.Below
import Derived.Carry
import Derived.Test.YtpdnddcodnpmeaaGreatDoorCards
import Derived.Test.YtpdnddcodnpmeaaGreatDoorTie
import Derived.LaidMore
import Derived.Stop.Joined
import Derived.Test.YtpdnddcodnpmeaaGreatDoorQ0c80412d
import Derived.Test.YtpdnddcodnpmeaaGreatDoorQ7b5fe899
import Derived.Test.YtpdnddcodnpmeaaGreatDoorQ8ff11086
import Derived.Test.YtpdnddcodnpmeaaGreatDoorQ52f385ea
import Derived.Test.YtpdnddcodnpmeaaGreatDoorQ3ba871d2
import Derived.Test.YtpdnddcodnpmeaaGreatDoorQ67391b50
import Derived.Test.YtpdnddcodnpmeaaGreatDoorQd963d5f1
import Derived.Test.YtpdnddcodnpmeaaGreatDoorQf186b5bc
import Derived.Test.YtpdnddcodnpmeaaGreatDoorQ738e87f5
import Derived.Test.YtpdnddcodnpmeaaGreatDoorQed4c4d5e
import Derived.Test.YtpdnddcodnpmeaaGreatDoorQ03b4fac6
set_option linter.unusedVariables false
set_option linter.unusedSimpArgs false
namespace Go.Fx
def m222 : Vec 32 := ⟨222 :: List.replicate 31 0, by decide⟩
theorem Ah1 {w : World} (K : Value → Prop) : rdP P (Instr.build Aa #[(0, .int .u8 222)]) w K = K (kv m222) := Cx (r := rVec 32) (a := m222) (by kernel_rfl) K
theorem AeD (y : Sn) : Oy y y = true := by simp [Oy]
section
variable {w0 z : World} {G : BwG} {n : Nat} {p : Par} {d : BwD} {vv : Value} {V : List Vt}
set_option maxHeartbeats 2000000 in
theorem QX (H : BwI w0 G p n d z) (hv : ∀ u, Sep w0 u d.As → AB Au u.heap vv V) (hVl : V.length ≤ 1000000) (hn : n ≤ 100) :
    cal P EW [ptr G.gx, vv] z fun r z' => r = .bool true ∧ BwI w0 G p n d z' := by
  refine PU fun R hR => ?_
  unfold J6
  have hcnt := H.cnt
  have hidn := H.hn
  have hlenI := H.lenI
  have hMl : d.M.length = d.N.length := (Gd H.kb).symm
  have hNl : d.N.length ≤ 1000000 := by omega
  have hMl2 : d.M.length ≤ 1000000 := by omega
  have hIl : d.I.length ≤ 1000000 := by omega
  have Hm : ∀ {u : World} {Bs : List Asn}, Sep w0 u (Bs ++ (d.L G p ++ d.As)) → BwI w0 G p n { d with As := Bs ++ d.As } u := fun h => H.more h
  have hvv : ∀ {u : World} {Bs : List Asn}, Sep w0 u (Bs ++ (d.L G p ++ d.As)) → AB Au u.heap vv V := fun h => hv _ (Sep.dropL (As := d.L G p) (Sep.dropL h))
  have rt : ∀ {u : World} {Bs : List Asn}, Sep w0 u (Bs ++ (d.L G p ++ d.As)) → ∀ K : Value → Prop, K (ptr G.g) → ld1 (.pointer (some ⟨G.gx, 0, none⟩)) u.heap K := fun h K hk => ((Hm h).ldt K).mpr hk
  have rr : ∀ {u : World} {Bs : List Asn}, Sep w0 u (Bs ++ (d.L G p ++ d.As)) → ∀ K : Value → Prop, K (ptr G.gd) → ld1 (.pointer (some ⟨G.gx, 1, none⟩)) u.heap K := fun h K hk => ((Hm h).ldr K).mpr hk
  have rT : ∀ {u : World} {Bs : List Asn}, Sep w0 u (Bs ++ (d.L G p ++ d.As)) → ∀ K : Value → Prop, K (ptr G.gr) → ld1 (.pointer (some ⟨G.gd, 4, none⟩)) u.heap K := fun h K hk => ((Hm h).dor.ldT K).mpr hk
  simp only [fx, Nat.reduceAdd, forall_const]
  refine (H.ldt _).mpr ?_
  refine Af (AeC H.to) ?_
  rintro _ z1 ⟨rfl, hf1⟩
  have hz1 := H.sep.old hf1
  simp only [fx, Nat.reduceAdd, forall_const]
  refine Av hz1 (AS z1) fun g5 z2 hz2 => ?_
  refine AE hz2 fun z3 hz3 => ?_
  refine A0 hz3 fun z4 hz4 _ => ?_
  refine ⟨kv d.t.root, fun u hu => (Ai (Sep.blk hu) _).mpr rfl, ?_⟩
  refine AF (v := ptr G.gd) (fun u hu K hk => rr (Bs := [_]) hu K hk) ?_
  try simp only [fx, Nat.reduceAdd, forall_const]
  refine AF (v := ptr G.gr) (fun u hu K hk => rT (Bs := [_]) hu K hk) ?_
  try simp only [fx, Nat.reduceAdd, forall_const]
  refine ⟨kv d.t.root, fun u hu => ((Hm (Bs := [_]) hu).dor.ldR _).mpr rfl, ?_⟩
  refine ⟨.bool (!decide (d.t.root = d.t.root)), fun u hu => (C0 _).mpr rfl, ?_⟩
  simp only [fx, Nat.reduceAdd, forall_const, decide_true, Bool.not_true]
  refine Bu ?_
  refine AF (v := ptr G.gd) (fun u hu K hk => rr (Bs := [_]) hu K hk) ?_
  try simp only [fx, Nat.reduceAdd, forall_const]
  refine AF (v := ptr G.gr) (fun u hu K hk => rT (Bs := [_]) hu K hk) ?_
  try simp only [fx, Nat.reduceAdd, forall_const]
  refine AF (v := .int .i64 d.t.ht) (fun u hu K hk => by
    obtain ⟨T, fr, hc⟩ := (Hm (Bs := [_]) hu).dor.rf.cell
    exact (A8 hc K).mpr hk) ?_
  simp only [fx, Nat.reduceAdd, forall_const, bne_self_eq_false]
  refine Bu ?_
  refine AF (v := ptr G.g) (fun u hu K hk => rt (Bs := [_]) hu K hk) ?_
  refine AF (v := ptr G.gd) (fun u hu K hk => rr (Bs := [_]) hu K hk) ?_
  try simp only [fx, Nat.reduceAdd, forall_const]
  refine AF (v := ptr G.gr) (fun u hu K hk => rT (Bs := [_]) hu K hk) ?_
  try simp only [fx, Nat.reduceAdd, forall_const]
  refine AF (v := d.lv) (fun u hu K hk => by
    obtain ⟨T, fr, hc⟩ := (Hm (Bs := [_]) hu).dor.rf.cell
    exact (AV hc K).mpr hk) ?_
  rw [(Hm (Bs := [_]) hz4).dor.rf.len]
  refine AL (Af (XO (Hm (Bs := [_]) hz4).to hNl) ?_)
  rintro _ _ ⟨rfl, rfl⟩
  refine ⟨hz4, ?_⟩
  rw [show ({ d with As := [blk g5 (Rdr.cells (rVec 32) d.t.root).toArray Aa] ++ d.As } : BwD).M.length = d.N.length from hMl]
  simp only [fx, Nat.reduceAdd, forall_const, bne_self_eq_false]
  refine Bu ?_
  refine AF (v := ptr G.g) (fun u hu K hk => rt (Bs := [_]) hu K hk) ?_
  refine AF (v := ptr G.gd) (fun u hu K hk => rr (Bs := [_]) hu K hk) ?_
  refine AL (Af (K4 H.tp (Hm (Bs := [_]) hz4).to) ?_)
  rintro _ z5 ⟨k1, hk1, rfl, hf5⟩
  have hz5 := hz4.old hf5
  refine ⟨hz5, ?_⟩
  refine AL (Af (U1 H.tpM (Hm (Bs := [_]) hz5).dor hIl) ?_)
  rintro _ z6 ⟨k2, hk2, rfl, hf6⟩
  rw [H.eS] at hk2
  obtain rfl := hk2.one hk1
  have hz6 := hz5.old hf6
  refine ⟨hz6, ?_⟩
  refine ⟨.bool (!decide (k2 = k2)), fun u hu => (C0 _).mpr rfl, ?_⟩
  simp only [fx, Nat.reduceAdd, forall_const, decide_true, Bool.not_true]
  refine rt (Bs := [_]) hz6 _ ?_
  refine Af (Vu (Hm (Bs := [_]) hz6).to hNl) ?_
  rintro _ z7 ⟨g', gm', ov', c', rfl, hz7⟩
  replace hz7 := hz6.join hz7
  have hz7 : Sep w0 z7 (trH g' gm' ov' d.t d.N c' ++ (d.L G p ++ d.As)) := Sep.pick hz7 [0, 1, 2] 4
  simp only [fx, Nat.reduceAdd, forall_const, Option.isNone_some]
  refine ((Hm hz7).ldx _).mpr ?_
  refine Af (H1 (Hm hz7).rids (show d.ids.length ≤ 1000000 by omega)) ?_
  rintro cv z8 hz8
  replace hz8 := hz7.join hz8
  rw [Ah1]
  refine bldI hz8 fun q1 z9 hz9 => ?_
  refine appI hz9.p1 (Sep.rows hz9) (show d.ids.length ≤ 1000000 by omega) fun av z10 hz10 => ?_
  obtain ⟨Y, hY⟩ : ∃ Y, Y = d.ids ++ [m222] := ⟨_, rfl⟩
  have hYl : Y.length ≤ 1000000 := by rw [hY]; simp; omega
  have hz11 : Sep w0 z10 (rows (rVec 32) av Y :: (trH g' gm' ov' d.t d.N c' ++ (d.L G p ++ d.As))) := by rw [hY]; exact hz10.d1
  obtain ⟨Bs, hBs⟩ : ∃ Bs, Bs = rows (rVec 32) av Y :: trH g' gm' ov' d.t d.N c' := ⟨_, rfl⟩
  have hz11 : Sep w0 z10 (Bs ++ (d.L G p ++ d.As)) := by rw [hBs]; exact hz11
  have rY : ∀ {u : World} {Xs : List Asn}, Sep w0 u (Xs ++ (Bs ++ (d.L G p ++ d.As))) → AB (rVec 32) u.heap av Y := fun h => by
    have h := Sep.dropL h
    rw [hBs] at h
    exact Sep.rows h
  have rC : ∀ {u : World} {Xs : List Asn}, Sep w0 u (Xs ++ (Bs ++ (d.L G p ++ d.As))) → TrR u.heap g' gm' ov' d.t d.N c' := fun h => by
    have h := Sep.dropL h
    rw [hBs] at h
    exact Rl (As := d.L G p ++ d.As) h.tail (H.dat.sub fun A hA => List.mem_append_right _ hA)
  clear hBs
  rw [(rY (Xs := []) hz11).len]
  refine ⟨fun v u => ∃ j : Nat, v = .int .i64 j ∧ j ≤ Y.length ∧ Sep w0 u (Bs ++ (d.L G p ++ d.As)), fun v _ => (Y.length - RowKit.intOf v).toNat, ⟨0, rfl, by omega, hz11⟩, ?_⟩
  rintro _ z12 ⟨j, rfl, hj, hz12⟩ -
  simp only [fx, Nat.reduceAdd, forall_const]
  rw [Aj]
  refine ⟨fun h => ?_, fun h => hR _ _ ⟨rfl, H.at (Sep.dropL hz12)⟩⟩
  have hjl : j < Y.length := by simp at h; omega
  obtain ⟨b, hb⟩ : ∃ b, Y[j]? = some b := ⟨_, List.getElem?_eq_getElem hjl⟩
  change ixs 32 _ _ _
  refine AB.ldN (q := rVec 32) (by decide) (rY (Xs := []) hz12) hb .i64 ?_
  refine Av hz12 (AS z12) fun g9 z13 hz13 => ?_
  refine AE (b := b) hz13 fun z14 hz14 => ?_
  obtain ⟨y, hy⟩ : ∃ y, y = (svM d.S b).getD snZ := ⟨_, rfl⟩
  obtain ⟨e, he⟩ : ∃ e : Int, e = if (svM d.S b).isSome then 0 else 4 := ⟨_, rfl⟩
  have hyl : y.l.length ≤ 1000000 := by
    rw [hy]
    cases hq : svM d.S b with
    | none => simp [snZ]
    | some x => have := (H.tp.may b x hq).n2; show x.l.length ≤ _; omega
  refine A0 hz14 fun z15 hz15 _ => ?_
  refine ⟨fun a e' u => ∃ g10 v1, a = ptr g10 ∧ e' = .int .i64 e ∧ Sep w0 u (blk g10 (Rdr.cells Aq (snr v1 y)).toArray Ak :: rows Ab v1 y.l :: blk g9 (Rdr.cells (rVec 32) b).toArray Aa :: (Bs ++ (d.L G p ++ d.As))), ?_, ?_⟩
  · refine AF (v := ptr G.g) (fun u hu K hk => rt (Bs := _ :: Bs) hu K hk) ?_
    refine ⟨kv b, fun u hu => (Ai (Sep.blk hu) _).mpr rfl, ?_⟩
    refine ⟨?_, ?_, trivial⟩
    · refine Cl (Af (Vg H.tp (Hm (Bs := _ :: Bs) hz15).to b) ?_)
      rintro _ z16 ⟨v1, rfl, hz16⟩
      rw [← hy] at hz16 ⊢
      have hz17 := hz15.join hz16
      refine ⟨fun u => Sep w0 u _, hz17, ?_⟩
      try simp only [fx, Nat.reduceAdd, forall_const]
      refine AL (Av hz17 (Bo z16) fun g10 z18 hz18 => ⟨hz18.tail, ?_⟩)
      refine A9 (AJ (b := snr v1 y) hz18 (AD (Sep.oneR hz18.p1)) fun z19 hz19 => ?_)
      exact ⟨g10, v1, by first | rfl | trivial, by rw [he], hz19⟩
    · refine AL (Av hz15 (Bo z15) fun g10 z16 hz16 => ⟨hz16.tail, ?_⟩)
      refine BD (Af (Vg H.tp (Hm (Bs := _ :: _ :: Bs) hz16).to b) ?_)
      rintro _ z17 ⟨v1, rfl, hz17⟩
      rw [← hy] at hz17 ⊢
      have hz18 := hz16.join hz17
      try simp only [fx, Nat.reduceAdd, forall_const]
      refine A9 (AJ (b := snr v1 y) hz18.p1 (AD (Sep.oneR hz18)) fun z19 hz19 => ?_)
      exact ⟨g10, v1, by first | rfl | trivial, by rw [he], hz19⟩
  rintro _ _ z16 ⟨g10, v1, rfl, rfl, hz16⟩ _
  refine A0 hz16 fun z17 hz17 _ => ?_
  have hmI : ∀ k x, IM d.I k = some x → x.l.length ≤ 1000000 := fun k x hx => by rw [H.eS] at hx; have := (H.tp.may k x hx).n2; omega
  refine ⟨fun a e' u => ∃ g12 v2, a = ptr g12 ∧ e' = .int .i64 e ∧ Sep w0 u (blk g12 (Rdr.cells Aq (snr v2 y)).toArray Ak :: rows Ab v2 y.l :: blk g10 (Rdr.cells Aq (snr v1 y)).toArray Ak :: rows Ab v1 y.l :: blk g9 (Rdr.cells (rVec 32) b).toArray Aa :: (Bs ++ (d.L G p ++ d.As))), ?_, ?_⟩
  · refine AF (v := ptr G.gd) (fun u hu K hk => rr (Bs := _ :: _ :: _ :: Bs) hu K hk) ?_
    refine ⟨kv b, fun u hu => (Ai (Sep.blk hu.p2) _).mpr rfl, ?_⟩
    refine ⟨?_, ?_, trivial⟩
    · refine Cl (Af (WH (Hm (Bs := _ :: _ :: _ :: Bs) hz17).dor hIl hmI b) ?_)
      rintro _ z18 ⟨v2, rfl, hz18⟩
      rw [H.eS, ← hy] at hz18 ⊢
      have hz19 := hz17.join hz18
      refine ⟨fun u => Sep w0 u _, hz19, ?_⟩
      try simp only [fx, Nat.reduceAdd, forall_const]
      refine AL (Av hz19 (Bo z18) fun g12 z20 hz20 => ⟨hz20.tail, ?_⟩)
      refine A9 (AJ (b := snr v2 y) hz20 (AD (Sep.oneR hz20.p1)) fun z21 hz21 => ?_)
      exact ⟨g12, v2, by first | rfl | trivial, by rw [he], hz21⟩
    · refine AL (Av hz17 (Bo z17) fun g12 z18 hz18 => ⟨hz18.tail, ?_⟩)
      refine BD (Af (WH (Hm (Bs := _ :: _ :: _ :: _ :: Bs) hz18).dor hIl hmI b) ?_)
      rintro _ z19 ⟨v2, rfl, hz19⟩
      rw [H.eS, ← hy] at hz19 ⊢
      have hz20 := hz18.join hz19
      try simp only [fx, Nat.reduceAdd, forall_const]
      refine A9 (AJ (b := snr v2 y) hz20.p1 (AD (Sep.oneR hz20)) fun z21 hz21 => ?_)
      exact ⟨g12, v2, by first | rfl | trivial, by rw [he], hz21⟩
  rintro _ _ z18 ⟨g12, v2, rfl, rfl, hz18⟩ _
  obtain ⟨nB, hnB⟩ : ∃ nB, nB = (nb b d.N).1 := ⟨_, rfl⟩
  obtain ⟨e2, he2⟩ : ∃ e2 : Int, e2 = if (Ba b d.N).isSome then 0 else 4 := ⟨_, rfl⟩
  have hnM : (nb b d.M).1 = nB := by rw [hnB, ZA H.kb]
  have heM : (if (Ba b d.M).isSome then (0 : Int) else 4) = e2 := by rw [he2, I3 H.kb]
  refine A0 hz18 fun z19 hz19 _ => ?_
  refine ⟨fun a e' u => ∃ g14 v3, a = ptr g14 ∧ e' = .int .i64 e2 ∧ Sep w0 u (blk g14 (Rdr.cells Aw (nB.p, nB.h, v3)).toArray Ao :: ownB v3 nB.d :: blk g12 (Rdr.cells Aq (snr v2 y)).toArray Ak :: rows Ab v2 y.l :: blk g10 (Rdr.cells Aq (snr v1 y)).toArray Ak :: rows Ab v1 y.l :: blk g9 (Rdr.cells (rVec 32) b).toArray Aa :: (Bs ++ (d.L G p ++ d.As))), ?_, ?_⟩
  · refine AF (v := ptr G.g) (fun u hu K hk => rt (Bs := _ :: _ :: _ :: _ :: _ :: Bs) hu K hk) ?_
    refine ⟨kv b, fun u hu => (Ai (Sep.blk hu.p4) _).mpr rfl, ?_⟩
    refine ⟨?_, ?_, trivial⟩
    · refine Cl (Af (XG (Hm (Bs := _ :: _ :: _ :: _ :: _ :: Bs) hz19).to H.tp.tm.w b) ?_)
      rintro _ z20 ⟨v3, rfl, hz20⟩
      rw [← hnB] at hz20 ⊢
      have hz21 := hz19.join hz20
      refine ⟨fun u => Sep w0 u _, hz21, ?_⟩
      try simp only [fx, Nat.reduceAdd, forall_const]
      refine AL (Av hz21 (BF z20) fun g14 z22 hz22 => ⟨hz22.tail, ?_⟩)
      refine A9 (Bm (b := (nB.p, nB.h, v3)) hz22 (Bh (Sep.one hz22.p1)) fun z23 hz23 => ?_)
      exact ⟨g14, v3, by first | rfl | trivial, by rw [he2], hz23⟩
    · refine AL (Av hz19 (BF z19) fun g14 z20 hz20 => ⟨hz20.tail, ?_⟩)
      refine BD (Af (XG (Hm (Bs := _ :: _ :: _ :: _ :: _ :: _ :: Bs) hz20).to H.tp.tm.w b) ?_)
      rintro _ z21 ⟨v3, rfl, hz21⟩
      rw [← hnB] at hz21 ⊢
      have hz22 := hz20.join hz21
      try simp only [fx, Nat.reduceAdd, forall_const]
      refine A9 (Bm (b := (nB.p, nB.h, v3)) hz22.p1 (Bh (Sep.one hz22)) fun z23 hz23 => ?_)
      exact ⟨g14, v3, by first | rfl | trivial, by rw [he2], hz23⟩
  rintro _ _ z20 ⟨g14, v3, rfl, rfl, hz20⟩ _
  refine A0 hz20 fun z21 hz21 _ => ?_
  obtain ⟨v4, hv4⟩ : ∃ v4, v4 = (nb b d.M).2 := ⟨_, rfl⟩
  have hr4 : ∀ {u : World} {Xs : List Asn}, Sep w0 u (Xs ++ (d.L G p ++ d.As)) → RdB u.heap v4 nB.d := fun h => by
    have := (Hm h).dor.rf.nb b
    rw [hv4, ← hnM]
    exact this
  have h14 : v4.oneCell' = true := (hr4 (Xs := _ :: _ :: _ :: _ :: _ :: _ :: _ :: Bs) hz21).one
  refine ⟨fun a e' u => ∃ g16, a = ptr g16 ∧ e' = .int .i64 e2 ∧ Sep w0 u (blk g16 (Rdr.cells Aw (nB.p, nB.h, v4)).toArray Ao :: blk g14 (Rdr.cells Aw (nB.p, nB.h, v3)).toArray Ao :: ownB v3 nB.d :: blk g12 (Rdr.cells Aq (snr v2 y)).toArray Ak :: rows Ab v2 y.l :: blk g10 (Rdr.cells Aq (snr v1 y)).toArray Ak :: rows Ab v1 y.l :: blk g9 (Rdr.cells (rVec 32) b).toArray Aa :: (Bs ++ (d.L G p ++ d.As))), ?_, ?_⟩
  · try simp only [fx, Nat.reduceAdd, forall_const]
    refine AF (v := ptr G.gd) (fun u hu K hk => rr (Bs := _ :: _ :: _ :: _ :: _ :: _ :: _ :: Bs) hu K hk) ?_
    try simp only [fx, Nat.reduceAdd, forall_const]
    refine AF (v := ptr G.gr) (fun u hu K hk => rT (Bs := _ :: _ :: _ :: _ :: _ :: _ :: _ :: Bs) hu K hk) ?_
    refine ⟨kv b, fun u hu => (Ai (Sep.blk (Sep.pick hu [6] 7)) _).mpr rfl, ?_⟩
    refine ⟨?_, ?_, trivial⟩
    · refine Cl (Af (X8 (Hm (Bs := _ :: _ :: _ :: _ :: _ :: _ :: _ :: Bs) hz21).dor.rf hMl2 b) ?_)
      rintro _ z22 ⟨rfl, hf22⟩
      have hz22 := hz21.old hf22
      refine ⟨fun u => Sep w0 u _, hz22, ?_⟩
      rw [heM]
      try simp only [fx, Nat.reduceAdd, forall_const]
      refine AL (Av hz22 (BF z22) fun g16 z23 hz23 => ⟨hz23.tail, ?_⟩)
      rw [show bq (nb b d.M).1 (nb b d.M).2 = bq nB v4 by rw [hnM, hv4]]
      refine A9 (Bm (b := (nB.p, nB.h, v4)) hz23 (Bh h14) fun z24 hz24 => ?_)
      exact ⟨g16, by first | rfl | trivial, by first | rfl | trivial, hz24⟩
    · refine AL (Av hz21 (BF z21) fun g16 z22 hz22 => ⟨hz22.tail, ?_⟩)
      refine BD (Af (X8 (Hm (Bs := _ :: _ :: _ :: _ :: _ :: _ :: _ :: _ :: Bs) hz22).dor.rf hMl2 b) ?_)
      rintro _ z23 ⟨rfl, hf23⟩
      have hz23 := hz22.old hf23
      rw [show (if (Ba b ({ d with As := _ } : BwD).M).isSome then (0 : Int) else 4) = e2 from heM, show bq (nb b ({ d with As := _ } : BwD).M).1 (nb b ({ d with As := _ } : BwD).M).2 = bq nB v4 by show bq (nb b d.M).1 (nb b d.M).2 = _; rw [hnM, hv4]]
      try simp only [fx, Nat.reduceAdd, forall_const]
      refine A9 (Bm (b := (nB.p, nB.h, v4)) hz23 (Bh h14) fun z24 hz24 => ?_)
      exact ⟨g16, by first | rfl | trivial, by first | rfl | trivial, hz24⟩
  rintro _ _ z22 ⟨g16, rfl, rfl, hz22⟩ _
  obtain ⟨Cs, hCs⟩ : ∃ Cs, Cs = blk g16 (Rdr.cells Aw (nB.p, nB.h, v4)).toArray Ao :: blk g14 (Rdr.cells Aw (nB.p, nB.h, v3)).toArray Ao :: ownB v3 nB.d :: blk g12 (Rdr.cells Aq (snr v2 y)).toArray Ak :: rows Ab v2 y.l :: blk g10 (Rdr.cells Aq (snr v1 y)).toArray Ak :: rows Ab v1 y.l :: blk g9 (Rdr.cells (rVec 32) b).toArray Aa :: Bs := ⟨_, rfl⟩
  have hz22 : Sep w0 z22 (Cs ++ (d.L G p ++ d.As)) := by rw [hCs]; exact hz22
  have k9 : ∀ {u : World}, Sep w0 u (Cs ++ (d.L G p ++ d.As)) → ∀ K : Value → Prop, K (kv b) → ldN 32 (.pointer (some ⟨g9, 0, none⟩)) u.heap K := fun h K hk => by rw [hCs] at h; exact (Ai (Sep.blk (Sep.pick h [7] 8)) K).mpr hk
  have k10 : ∀ {u : World}, Sep w0 u (Cs ++ (d.L G p ++ d.As)) → ∀ K : Value → Prop, K (snv v1 y) → ldN 67 (.pointer (some ⟨g10, 0, none⟩)) u.heap K := fun h K hk => by rw [hCs] at h; exact (Ar (Sep.blk (Sep.pick h [5] 6)) K).mpr hk
  have k12 : ∀ {u : World}, Sep w0 u (Cs ++ (d.L G p ++ d.As)) → ∀ K : Value → Prop, K (snv v2 y) → ldN 67 (.pointer (some ⟨g12, 0, none⟩)) u.heap K := fun h K hk => by rw [hCs] at h; exact (Ar (Sep.blk h.p3) K).mpr hk
  have k14 : ∀ {u : World}, Sep w0 u (Cs ++ (d.L G p ++ d.As)) → ∀ K : Value → Prop, K (bq nB v3) → ldN 34 (.pointer (some ⟨g14, 0, none⟩)) u.heap K := fun h K hk => by rw [hCs] at h; exact (AA (Sep.blk h.p1) K).mpr hk
  have k16 : ∀ {u : World}, Sep w0 u (Cs ++ (d.L G p ++ d.As)) → ∀ K : Value → Prop, K (bq nB v4) → ldN 34 (.pointer (some ⟨g16, 0, none⟩)) u.heap K := fun h K hk => by rw [hCs] at h; exact (AA (Sep.blk h) K).mpr hk
  have r1 : ∀ {u : World}, Sep w0 u (Cs ++ (d.L G p ++ d.As)) → AB Ab u.heap v1 y.l := fun h => by rw [hCs] at h; exact Sep.rows (Sep.pick h [6] 7)
  have r2 : ∀ {u : World}, Sep w0 u (Cs ++ (d.L G p ++ d.As)) → AB Ab u.heap v2 y.l := fun h => by rw [hCs] at h; exact Sep.rows h.p4
  have r3 : ∀ {u : World}, Sep w0 u (Cs ++ (d.L G p ++ d.As)) → RdB u.heap v3 nB.d := fun h => by rw [hCs] at h; exact Sep.rd h.p2
  have rCC : ∀ {u : World} {Xs : List Asn}, Sep w0 u (Xs ++ (Cs ++ (d.L G p ++ d.As))) → TrR u.heap g' gm' ov' d.t d.N c' := fun h => by
    have h := Sep.dropL h
    rw [hCs] at h
    exact rC (Xs := [_, _, _, _, _, _, _, _]) h
  have rBs : ∀ {u : World}, Sep w0 u (Cs ++ (d.L G p ++ d.As)) → Sep w0 u (Bs ++ (d.L G p ++ d.As)) := fun h => by
    rw [hCs] at h
    exact Sep.dropL (As := [_, _, _, _, _, _, _, _]) h
  clear hCs
  have hgM : ∀ q, hgt d.t d.M q ≤ 1000000 := fun q => Nat.le_trans (NZ H.tpM.tm q) (by omega)
  have hgN : ∀ q, hgt d.t d.N q ≤ 1000000 := fun q => Nat.le_trans (NZ H.tp.tm q) (by omega)
  refine A0 hz22 fun z23 hz23 _ => ?_
  refine ⟨snv v1 y, fun u hu => k10 hu _ rfl, ?_⟩
  refine ⟨snv v2 y, fun u hu => k12 hu _ rfl, ?_⟩
  refine Cl (Af (AcF (x := y) (y := y) (r1 hz23) (r2 hz23) (by omega) (by omega)) ?_)
  rintro _ z24 ⟨rfl, hf24⟩
  have hz24 := hz23.old hf24
  rw [AeD]
  refine ⟨fun u => Sep w0 u _, hz24, ?_⟩
  simp only [fx, Nat.reduceAdd, forall_const, Bool.not_true, bne_self_eq_false]
  refine Bu ?_
  refine ⟨bq nB v3, fun u hu => k14 hu _ rfl, ?_⟩
  refine ⟨bq nB v4, fun u hu => k16 hu _ rfl, ?_⟩
  refine AL (Af (Aeh (a := nB) (b := nB) (r3 hz24) (hr4 hz24)) ?_)
  rintro _ z25 ⟨rfl, hf25⟩
  have hz25 := hz24.old hf25
  refine ⟨hz25, ?_⟩
  simp only [fx, Nat.reduceAdd, forall_const, decide_true, Bool.not_true, bne_self_eq_false]
  refine Bu ?_
  refine AF (v := ptr G.g) (fun u hu K hk => rt hu K hk) ?_
  refine ⟨kv b, fun u hu => k9 hu _ rfl, ?_⟩
  refine AF (v := ptr G.gd) (fun u hu K hk => rr hu K hk) ?_
  try simp only [fx, Nat.reduceAdd, forall_const]
  refine AF (v := ptr G.gr) (fun u hu K hk => rT hu K hk) ?_
  refine ⟨kv b, fun u hu => k9 hu _ rfl, ?_⟩
  refine AL (Af (AfY (Hm hz25).to b) ?_)
  rintro _ z26 ⟨rfl, hf26⟩
  have hz26 := hz25.old hf26
  refine ⟨hz26, ?_⟩
  refine AL (Af (GY (Hm hz26).dor.rf hMl2 b) ?_)
  rintro _ z27 ⟨rfl, hf27⟩
  have hz27 := hz26.old hf27
  refine ⟨hz27, ?_⟩
  refine ⟨.bool (has d.t d.N b != has d.t d.M b), fun u hu => (G5 _ _ Ny _).mpr rfl, ?_⟩
  rw [D3 H.kb]
  simp only [fx, Nat.reduceAdd, forall_const, bne_self_eq_false]
  refine Bu ?_
  refine AF (v := ptr G.g) (fun u hu K hk => rt hu K hk) ?_
  refine ⟨kv b, fun u hu => k9 hu _ rfl, ?_⟩
  refine AF (v := ptr G.gd) (fun u hu K hk => rr hu K hk) ?_
  refine ⟨kv b, fun u hu => k9 hu _ rfl, ?_⟩
  refine AL (Af (Vv H.tp (Hm hz27).to b) ?_)
  rintro _ z28 ⟨q1', hq1, rfl, hf28⟩
  have hz28 := hz27.old hf28
  refine ⟨hz28, ?_⟩
  refine AL (Af (Wc H.tpM (Hm hz28).dor hIl hMl2 (by omega) b) ?_)
  rintro _ z29 ⟨q2', hq2, rfl, hf29⟩
  rw [H.eS] at hq2
  obtain rfl := hq2.one hq1
  have hz29 := hz28.old hf29
  refine ⟨hz29, ?_⟩
  refine ⟨.bool (under d.t d.N q2' b != under d.t d.M q2' b), fun u hu => (G5 _ _ Ny _).mpr rfl, ?_⟩
  rw [Ov H.kb]
  simp only [fx, Nat.reduceAdd, forall_const, bne_self_eq_false]
  refine Bu ?_
  refine AF (v := ptr G.g) (fun u hu K hk => rt hu K hk) ?_
  refine ⟨kv b, fun u hu => k9 hu _ rfl, ?_⟩
  refine AF (v := ptr G.gd) (fun u hu K hk => rr hu K hk) ?_
  refine ⟨kv b, fun u hu => k9 hu _ rfl, ?_⟩
  refine AL (Af (Ace H.tp.tm (Hm hz29).to (V := V) (hvv hz29) hVl hNl b) ?_)
  rintro _ z30 ⟨rfl, hf30⟩
  have hz30 := hz29.old hf30
  refine ⟨hz30, ?_⟩
  refine AL (Af (Tm H.tpM.tm (Hm hz30).dor (V := V) (hvv hz30) hVl hMl2 (by omega) b) ?_)
  rintro _ z31 ⟨rfl, hf31⟩
  have hz31 := hz30.old hf31
  refine ⟨hz31, ?_⟩
  have ecB : cntB d.t d.N V b = cntB d.t d.M V b := by
    unfold cntB
    rw [W2 H.kb]
  rw [ecB]
  simp only [fx, Nat.reduceAdd, forall_const, bne_self_eq_false]
  refine Bu ?_
  refine ⟨kv b, fun u hu => k9 hu _ rfl, ?_⟩
  refine AF (v := ptr G.gd) (fun u hu K hk => rr hu K hk) ?_
  try simp only [fx, Nat.reduceAdd, forall_const]
  refine AF (v := ptr G.gr) (fun u hu K hk => rT hu K hk) ?_
  refine ⟨kv b, fun u hu => k9 hu _ rfl, ?_⟩
  refine AL (Af (GI (rCC (Xs := []) hz31) b) ?_)
  rintro _ z32 ⟨rfl, hf32⟩
  have hz32 := hz31.old hf32
  refine ⟨hz32, ?_⟩
  refine AL (Af (GY (Hm hz32).dor.rf hMl2 b) ?_)
  rintro _ z33 ⟨rfl, hf33⟩
  have hz33 := hz32.old hf33
  refine ⟨hz33, ?_⟩
  refine ⟨.bool (has d.t d.N b != has d.t d.M b), fun u hu => (G5 _ _ Ny _).mpr rfl, ?_⟩
  rw [D3 H.kb]
  simp only [fx, Nat.reduceAdd, forall_const, bne_self_eq_false]
  refine Bu ?_
  refine ⟨kv b, fun u hu => k9 hu _ rfl, ?_⟩
  refine AF (v := ptr G.gd) (fun u hu K hk => rr hu K hk) ?_
  try simp only [fx, Nat.reduceAdd, forall_const]
  refine AF (v := ptr G.gr) (fun u hu K hk => rT hu K hk) ?_
  refine ⟨kv b, fun u hu => k9 hu _ rfl, ?_⟩
  refine AL (Af (Agc (rCC (Xs := []) hz33) H.tp.tm.w b (hgN b)) ?_)
  rintro p1 z34 hz34
  replace hz34 := hz33.join hz34
  refine ⟨Sep.tail hz34, ?_⟩
  refine AL (Af (VM (Hm (Bs := _ :: Cs) hz34).dor.rf H.tpM.tm.w hMl2 b (hgM b)) ?_)
  rintro p2 z35 hz35
  replace hz35 := hz34.join hz35
  refine ⟨Sep.tail (Sep.tail hz35), ?_⟩
  have hpl : (BB d.t d.N b).length ≤ 1000000 := by
    unfold BB
    split
    · rw [List.length_reverse]
      exact Nat.le_trans (Rf d.t d.N (hgt d.t d.N b) b) (hgN b)
    · simp
  have hp2 : AB (rVec 32) z35.heap p2 (BB d.t d.N b) := by
    rw [Aic H.kb b]
    exact Sep.rows hz35
  refine AL (Af (ET (Sep.rows hz35.p1) hp2 hpl) ?_)
  rintro _ z36 ⟨rfl, hf36⟩
  have hz36 := (Sep.tail (Sep.tail hz35)).old hf36
  refine ⟨hz36, ?_⟩
  simp only [fx, Nat.reduceAdd, forall_const, decide_true, Bool.not_true]
  rw [wi64 (by omega) (by omega)]
  exact ⟨⟨j + 1, by simp, by omega, rBs hz36⟩, by simp [RowKit.intOf]; omega⟩
end
end Go.Fx
namespace Go.Fx
theorem Aij {h : Heap} {p : Par} (hp : Rdr.ok Lv h p) : PaOk p := by
  obtain ⟨h1, h2, _⟩ := hp
  have b1 := Go.bounds_i64 h1
  have b2 := Go.bounds_i64 h2
  exact ⟨b1.1, b1.2, b2.1, b2.2⟩
section
variable {w : World}
end
end Go.Fx
namespace Go.Fx
theorem AhO {I J : List (Vec 32 × Value × Sn)} (h : J.map (fun e => (e.1, e.2.2)) = I.map fun e => (e.1, e.2.2)) : IM J = IM I ∧ J.map (·.1) = I.map (·.1) := by
  refine ⟨?_, ?_⟩
  · have h2 : J.map (fun e => (e.1, e.2.2)) = (I.filter fun e => (fun _ : Vec 32 => true) e.1).map fun e => (e.1, (fun (_ : Vec 32) (x : Sn) => x) e.1 e.2.2) := by
      rw [h, List.filter_eq_self.2 fun _ _ => rfl]
    rw [RF (P := fun _ => true) (G := fun _ x => x) h2]
    funext k
    show (if true = true then (IM I k).map (fun x => x) else none) = _
    rw [if_pos rfl]
    cases IM I k <;> rfl
  · have := congrArg (List.map Prod.fst) h
    simpa [List.map_map, Function.comp_def] using this
section
variable {w0 w w' : World} {As : List Asn} {g gt gm gs c gr : Nat} {ov iv lv : Value} {p : Par} {t : Tr} {N M : List TN} {S : SV} {I : List (Vec 32 × Value × Sn)} {m : Nat}
theorem AcC (hr : DoR w.heap g gr iv lv p t M I) (hn : M.length ≤ 1000000) (hl : I.length ≤ 1000000) (hm : ∀ e ∈ I, e.2.2.l.length ≤ 1000000) :
    cal P Ha [ptr g] w fun r w' => ∃ g' gr' iv' lv' I' E, r = ptr g' ∧ I'.map (fun e => (e.1, e.2.2)) = I.map (fun e => (e.1, e.2.2)) ∧ IDat I' E ∧ Sep w w' (doH g' gr' iv' lv' p t M I' ++ E) := by
  refine P5 fun R hR => ?_
  unfold J4
  refine A0 (Sep.start w) fun w1 hs1 _ => ?_
  try simp only [fx, Nat.reduceAdd, forall_const]
  refine ⟨pav p, fun u hu => ((hu.dor hr).ldP _).mpr rfl, ?_⟩
  refine AF (v := ptr gr) (fun u hu K hk => ((hu.dor hr).ldT K).mpr hk) ?_
  refine AL (Af (MP (hs1.dor hr).rf hn) ?_)
  rintro _ w2 ⟨gr', lv', rfl, hs2⟩
  replace hs2 := hs1.join hs2
  refine ⟨Sep.dropL (As := rfH gr' lv' t M) hs2, ?_⟩
  refine ⟨.agg (Rdr.cells AX (p, ptr gr', Value.slice none 0 0)).toArray, fun u hu => by rw [HM rfl], ?_⟩
  refine QN (bxQ hs2 fun g' w3 hs3 => ?_)
  refine ⟨fun y z => ∃ (i : Nat) (nv : Value) (J : List (Vec 32 × Value × Sn)) (E : List Asn), y = .int .i64 i ∧ i ≤ I.length ∧ J.map (fun e => (e.1, e.2.2)) = (I.take i).map (fun e => (e.1, e.2.2)) ∧ IDat J E ∧ Sep w z (doH g' gr' nv lv' p t M J ++ E), fun y _ => (I.length - RowKit.intOf y).toNat,
    ⟨0, .slice none 0 0, [], [], rfl, by omega, by simp, fun x hx => (by cases hx), Sep.pick (Sep.nilR (q := Al) hs3) [1, 0, 2, 3] 4⟩, ?_⟩
  rintro _ z ⟨i, nv, J, E, rfl, hi, hJ, hJd, hz⟩ -
  have hrz := hz.dor hr
  simp only [fx, Nat.reduceAdd, forall_const, hrz.ldL, hrz.len]
  have hJl : J.length = i := by
    have := congrArg List.length hJ
    simpa [Nat.min_eq_left hi] using this
  rw [Aj]
  refine ⟨fun h => ?_, fun h => ?_⟩
  · have hlt : i < I.length := by simp at h; omega
    obtain ⟨e, he⟩ : ∃ e, I[i]? = some e := ⟨_, List.getElem?_eq_getElem hlt⟩
    have htk : I.take (i + 1) = I.take i ++ [e] := by rw [List.take_add_one, he]; rfl
    have hem := List.mem_of_getElem? he
    refine A0 hz fun z1 hz1 _ => ?_
    refine AF (v := nv) (fun u hu K hk => (Dw (Sep.blk hu) K).mpr hk) ?_
    refine AF (v := iv) (fun u hu K hk => ((hu.dor hr).ldL K).mpr hk) ?_
    refine Ip (q := Al) (s := rVec 32) fAt (by decide) hz1 (fun u hu => (hu.dor hr).rw) (Dt he) .i64 ?_
    refine AF (v := iv) (fun u hu K hk => ((hu.dor hr).ldL K).mpr hk) ?_
    refine Ip (q := Al) (s := Aq) fS (by decide) hz1 (fun u hu => (hu.dor hr).rw) (Dt he) .i64 ?_
    have hch := (hz1.dor hr).ch e hem
    refine AL (Af (GZ (v := e.2.1) (x := e.2.2) hch (hm e hem) hch.one1) ?_)
    rintro _ z2 ⟨v', rfl, hz2⟩
    replace hz2 := hz1.join hz2
    have h1v : v'.oneCell' = true := Sep.oneR hz2
    refine ⟨hz2.tail, ?_⟩
    refine ⟨.agg (Rdr.cells Al (inst (e.1, v', e.2.2))).toArray, fun u hu => by rw [show (inst e).1 = e.1 from rfl, HX]; rfl, ?_⟩
    refine AL (CQ hz2 CU (l := [inst (e.1, v', e.2.2)]) (V := fun a => .agg (Rdr.cells Al a).toArray) (fun a => rfl) rfl rfl (by decide) (by decide) fun g14 z3 hz3 => ⟨hz3.tail.tail, ?_⟩)
    refine EE (BX CU Fv (by simp) (Sep.pick hz3 [3, 0, 1, 2, 4, 5] 6) (Sep.rows hz3) (Uy h1v) (by simp; omega) (by simp; omega) fun nv' z4 hz4 => ?_)
    try simp only [fx, Nat.reduceAdd, forall_const]
    refine Dd (Fh (Sep.pick hz4 [3, 0, 1, 2, 4, 5] 6) (Sep.oneR hz4) fun z5 hz5 => ?_)
    rw [wi64 (by omega) (by omega)]
    refine ⟨⟨i + 1, nv', J ++ [(e.1, v', e.2.2)], rows Ab v' e.2.2.l :: E, by simp, by omega, by rw [htk, List.map_append, List.map_append, hJ]; rfl, fun x hx => ?_, ?_⟩, by simp [RowKit.intOf]; omega⟩
    · rcases List.mem_append.1 hx with hx | hx
      · exact List.mem_cons_of_mem _ (hJd x hx)
      · obtain rfl : x = (e.1, v', e.2.2) := by simpa using hx
        exact List.mem_cons_self ..
    · unfold doH
      rw [List.map_append]
      exact Sep.pick hz5 [0, 1, 4, 5, 3] 6
  · have hie : i = I.length := by simp at h; omega
    rw [hie, List.take_length] at hJ
    exact hR _ _ ⟨g', gr', nv, lv', J, E, rfl, hJ, hJd, hz⟩
set_option maxHeartbeats 1000000 in
theorem AbL (hr : ToR w.heap g gt gm gs ov p t N c S) (hl : N.length ≤ 1000000) : cal P Hx [ptr g] w fun r w' => ∃ g' gt' gm' gs' ov' c', r = ptr g' ∧ Sep w w' (toH g' gt' gm' gs' ov' p t N c' S) := by
  refine Sz fun R hR => ?_
  unfold KB
  refine Af (Dj hr) ?_
  rintro _ _ ⟨rfl, rfl⟩
  try simp only [fx, Nat.reduceAdd, forall_const]
  refine A0 (Sep.start w) fun w1 hs1 _ => ?_
  refine ⟨fun a z => ∃ g' gt' gm' gs' ov' c', a = ptr g' ∧ Sep w z (blk g' (Rdr.cells AP (toq p gt' gs')).toArray Bj :: mpK (n := 32) gs' (fun _ => none) :: (trH gt' gm' ov' t N c' ++ [])), ?_, ?_⟩
  · refine AF (v := ptr gt) (fun u hu K hk => (hu.to hr).ldt K hk) ?_
    refine ⟨pav p, fun u hu => ToR.ldp (hu.to hr) (fun v' => v' = pav p) rfl, ?_⟩
    refine ⟨?_, ?_, trivial⟩
    · refine AL (Af (HQ (hs1.to hr).tr hl) ?_)
      rintro _ w2 ⟨gt', gm', ov', c', rfl, hs2⟩
      replace hs2 := hs1.join hs2
      refine ⟨Sep.dropL (As := trH gt' gm' ov' t N c') hs2, ?_⟩
      refine AL (RJ (n := 32) hs2 fun gs' w3 hs3 => ⟨Sep.dropL (As := trH gt' gm' ov' t N c') hs3.tail, ?_⟩)
      refine ⟨.agg (Rdr.cells AP (toq p gt' gs')).toArray, fun u hu => by rw [HG rfl rfl], ?_⟩
      refine QN (bxQ hs3 fun g' w4 hs4 => ?_)
      exact ⟨g', gt', gm', gs', ov', c', rfl, hs4⟩
    · refine AL (RJ (n := 32) hs1 fun gs' w2 hs2 => ⟨hs2.tail, ?_⟩)
      refine AL (Af (HQ (hs2.to hr).tr hl) ?_)
      rintro _ w3 ⟨gt', gm', ov', c', rfl, hs3⟩
      replace hs3 := hs2.join hs3
      refine ⟨(Sep.dropL (As := trH gt' gm' ov' t N c') hs3).tail, ?_⟩
      refine ⟨.agg (Rdr.cells AP (toq p gt' gs')).toArray, fun u hu => by rw [HG rfl rfl], ?_⟩
      refine QN (bxQ hs3 fun g' w4 hs4 => ?_)
      exact ⟨g', gt', gm', gs', ov', c', rfl, Sep.pick hs4 [0, 4, 1, 2, 3] 5⟩
  rintro _ w2 ⟨g', gt', gm', gs', ov', c', rfl, hs2⟩ _
  try simp only [fx, Nat.reduceAdd, forall_const]
  refine (hs2.to hr).lds _ ?_
  obtain ⟨l, cc, hl', hml⟩ := hr.mp
  have fm : ∀ {z : World}, Fr [] w z → z.heap[gs]? = some (.map (ents l) cc) := fun hf => hf.blk hml (by simp)
  refine W6 Ch hs2 (fm hs2.fr0) fun gi w3 hs3 => ?_
  refine ⟨fun z => ∃ (D U : List (Ent 32)) (F2 : Vec 32 → Option Value), RngK l cc D U ∧ (∀ k, F2 k = if k ∈ D.map (·.1) then svF S k else none) ∧
    Sep w z (mit gi gs cc D :: mpK gs' F2 :: blk g' (Rdr.cells AP (toq p gt' gs')).toArray Bj :: (trH gt' gm' ov' t N c' ++ [])), fun z => l.length - Gp gi z,
    ⟨[], l, fun _ => none, ⟨List.Perm.refl _⟩, fun k => (by simp), hs3.p2.p1⟩, ?_⟩
  rintro w4 ⟨D, U, F2, hD, hF2, hs4⟩ -
  have hseen : ∀ {z : World} {D : List (Ent 32)} {Bs : List Asn}, Sep w z (mit gi gs cc D :: Bs) → Gp gi z = D.length := fun h => by
    unfold Gp
    rw [Sep.objAt h]
    simp
  refine Aa0 (E := l) (D := D) hs4 (fm hs4.fr0) hl'.ok.lt (fun hall => ?_) fun x w5 hx hxn hm5 hs5 => ?_
  · simp only [fx, Nat.reduceAdd, forall_const]
    obtain rfl := hD.end hl' hall
    have e : F2 = svF S := by
      funext k
      rw [hF2]
      split
      · rfl
      · rename_i hk
        have := mt (hD.keys hl' k).2 hk
        cases hq : svF S k with
        | none => rfl
        | some q => rw [hq] at this; simp at this
    rw [e] at hs4
    exact hR _ _ ⟨g', gt', gm', gs', ov', c', rfl, Sep.pick hs4 [2, 1, 3, 4, 5] 6⟩
  · obtain ⟨⟨U', hD', hU'⟩, hfx, hxD⟩ := hD.next hl' hx hxn
    obtain ⟨⟨v, y⟩, hq, hxv⟩ := AaR hfx
    have hlen : D.length + U.length = l.length := by
      have := hD.pm.length_eq
      simpa using this
    have hrow : ∀ {z : World}, Fr [] w z → AB Ab z.heap v y.l := fun hf => (hr.rw x.1 (v, y) hq).fr hf
    try simp only [fx, Nat.reduceAdd, forall_const]
    rw [WO (h := w5.heap) (Sep.objAt hs5) hm5 hx hl'.ok.nd, hxv]
    try simp only [fx, Nat.reduceAdd, forall_const]
    refine Av hs5 (AS w5) fun g4 w6 hs6 => ?_
    refine Av hs6 (Bo w6) fun g5 w7 hs7 => ?_
    refine AE (b := x.1) hs7.p1 fun w8 hs8 => ?_
    refine AJ (b := snr v y) hs8.p1 (AD (hrow hs8.fr0).one1) fun w9 hs9 => ?_
    refine A0 hs9 fun w10 hs10 _ => ?_
    refine AF (v := .map (some gs')) (fun u hu K hk => (C1 (Sep.blk hu.p4) K).mpr hk) ?_
    refine ⟨kv x.1, fun u hu => (Ai (Sep.blk hu.p1) _).mpr rfl, ?_⟩
    refine ⟨snv v y, fun u hu => (Ar (Sep.blk hu) _).mpr rfl, ?_⟩
    refine ND (U4 Ch KT (Sep.pick hs10 [3, 0, 1, 2, 4, 5, 6, 7] 8) fun w11 hs11 => ?_)
    have hs12 := Sep.pick hs11 [3, 0, 4, 5, 6, 7] 8
    refine ⟨⟨D ++ [x], U', _, hD', fun k => ?_, hs12⟩, ?_⟩
    · unfold updF
      by_cases hkx : k = x.1
      · subst hkx
        have hm : x.1 ∈ (D ++ [x]).map (·.1) := by
          rw [List.map_append]
          exact List.mem_append_right _ (by simp)
        rw [if_pos rfl, if_pos hm]
        unfold svF
        rw [hq]
        rfl
      · rw [if_neg hkx, hF2]
        have : k ∈ (D ++ [x]).map (·.1) ↔ k ∈ D.map (·.1) := by
          rw [List.map_append, List.mem_append]
          exact ⟨fun h => h.resolve_right (by simpa using hkx), .inl⟩
        by_cases hk : k ∈ D.map (·.1)
        · rw [if_pos hk, if_pos (this.2 hk)]
        · rw [if_neg hk, if_neg (mt this.1 hk)]
    · rw [hseen hs12, hseen hs4, List.length_append, List.length_singleton]
      omega
end
end Go.Fx
namespace Go.Fx
section
variable {w : World}
set_option maxHeartbeats 2000000 in
theorem AeY {q : Par × Vec 32 × Int × Int} {s s' : Sl (Bool × Nat × Sl UInt8 × Sl (Nat × Int))} (hc : Cub w) (hq0 : Rdr.ok EL w.heap q) (hs0 : (rSl DP).ok w.heap s) (hs0' : (rSl DP).ok w.heap s') :
    cal P JJ [.agg (Rdr.cells AU q).toArray, s.v, s'.v] w fun r w' => r = .bool true ∧ Fr [] w w' := by
  have hpo : PaOk q.1 := Aij hq0.1
  obtain ⟨l, hr, hcap, hl63, hok⟩ := AbG hs0
  obtain ⟨l2, hr2, hcap2, hl632, hok2⟩ := AbG hs0'
  generalize s.v = v at *
  generalize s'.v = v2 at *
  clear hs0 hs0' hq0
  refine Qu fun R hR => ?_
  unfold JK
  refine bxQ (Sep.start w) fun g2 w0 hs0 => ?_
  have lv : ∀ {z : World}, Fr [] w z → cal P GH [] z R := fun {z} hf => Af (S8 (hc.fr hf)) fun r w' hr => hR _ _ ⟨hr.1, hf.trans hr.2 (by simp) (by simp)⟩
  refine Af (S8 (hc.fr hs0.fr0)) ?_
  rintro _ w1 ⟨rfl, hf1⟩
  have hs1 := hs0.old hf1
  simp only [fx, Nat.reduceAdd, forall_const]
  refine Bu ?_
  simp only [Cf (Sep.blk hs1), BW (Sep.blk hs1), BP (Sep.blk hs1), Bp (Sep.blk hs1), Bq (Sep.blk hs1), BA (Sep.blk hs1), BK (Sep.blk hs1), Bz (Sep.blk hs1), BJ (Sep.blk hs1)]
  refine Af (Vp (hr.fr hs1.fr0) hcap hl63 hok) ?_
  rintro _ w1' ⟨hf2, b, rfl, hb⟩
  have hs2 := hs1.old hf2
  cases b with
  | false => simp only [fx, Nat.reduceAdd, forall_const]; exact lv hs2.fr0
  | true =>
  obtain ⟨hl, hsm⟩ := hb rfl
  simp only [fx, Nat.reduceAdd, forall_const]
  refine Bu ?_
  simp only [Cf (Sep.blk hs2), BW (Sep.blk hs2), BP (Sep.blk hs2), Bp (Sep.blk hs2), Bq (Sep.blk hs2), BA (Sep.blk hs2), BK (Sep.blk hs2), Bz (Sep.blk hs2), BJ (Sep.blk hs2)]
  refine Af (Vp (hr2.fr hs2.fr0) hcap2 hl632 hok2) ?_
  rintro _ w2 ⟨hf3, b, rfl, hb⟩
  have hs3 := hs2.old hf3
  cases b with
  | false => simp only [fx, Nat.reduceAdd, forall_const]; exact lv hs3.fr0
  | true =>
  obtain ⟨hl2, hsm2⟩ := hb rfl
  simp only [fx, Nat.reduceAdd, forall_const, Cf (Sep.blk hs3), BW (Sep.blk hs3), BP (Sep.blk hs3), Bp (Sep.blk hs3), Bq (Sep.blk hs3), BA (Sep.blk hs3), BK (Sep.blk hs3), Bz (Sep.blk hs3), BJ (Sep.blk hs3)]
  have hC : Cub w2 := hc.fr hs3.fr0
  have hrw : JE w2.heap v l := hr.fr hs3.fr0
  have hrw2 : JE w2.heap v2 l2 := hr2.fr hs3.fr0
  have hout : ∀ {z : World}, Fr [] w2 z → R (.bool true) z := fun hf => hR _ _ ⟨rfl, hs3.fr0.trans hf (by simp) (by simp)⟩
  refine Af (Aeu hpo) ?_
  rintro _ w3 (⟨rfl, hf3⟩ | ⟨G, d0, rfl, hA0, H0⟩)
  · simp only [fx, Nat.reduceAdd, forall_const, Option.isNone_none]
    exact hout hf3
  simp only [fx, Nat.reduceAdd, forall_const, Option.isNone_some, hr.len]
  refine ⟨fun a z => ∃ i : Nat, a = .int .i64 i ∧ i ≤ l.length ∧ ∃ d, BwI w2 G q.1 i d z, fun a _ => (l.length - RowKit.intOf a).toNat, ⟨0, rfl, by omega, _, H0⟩, ?_⟩
  clear H0 hA0
  rintro _ z ⟨i, rfl, hi, d, H⟩ -
  have Hf := H.sep.fr0
  simp only [fx, Nat.reduceAdd, forall_const]
  rw [Aj]
  refine ⟨fun h => ?_, fun h => ?_⟩
  · have hlt : i < l.length := by simp at h; omega
    obtain ⟨a, ha⟩ : ∃ a, l[i]? = some a := ⟨_, List.getElem?_eq_getElem hlt⟩
    have ham := List.mem_of_getElem? ha
    have hak := hok a ham
    have ha' : (l.map AC.t)[i]? = some a.t := by rw [List.getElem?_map, ha]; rfl
    have had : ARd w2.heap a := hrw.d a ham
    have hafs : a.fs.length ≤ 1000 := by have := (hsm a ham).2; omega
    have hadl : a.d.length ≤ 1000 := (hsm a ham).1
    change ixs 4 _ _ _
    refine AB.ldN (q := AM) (by decide) (hrw.rw.fr Hf) ha' .i64 ?_
    refine Av H.sep (HK z) fun g8 z1 hz1 => ?_
    refine GS (b := a.t) hz1 (Gx had.d.one had.f.one1) fun z2 hz2 => ?_
    simp only [Cu (Sep.blk hz2), Ck (Sep.blk hz2), CI (Sep.blk hz2), B4 (Sep.blk hz2), Cb (Sep.blk hz2)]
    have H2 := H.more (Bs := [_]) hz2
    refine Af (Vj H2 hC had hak hafs hadl (by omega)) ?_
    rintro _ z3 ⟨rfl, d', E, _, H'⟩
    simp only [fx, Nat.reduceAdd, forall_const, Bool.not_true]
    rw [wi64 (by omega) (by omega)]
    exact ⟨⟨i + 1, by simp, by omega, d', H'⟩, by simp [RowKit.intOf]; omega⟩
  have hie : i = l.length := by simp at h; omega
  have hi50 : i ≤ 50 := by omega
  clear h hie
  have hcnt := H.cnt
  have hidn := H.hn
  have hlenI := H.lenI
  have hMl : d.M.length = d.N.length := (Gd H.kb).symm
  have hidl : d.ids.length ≤ 1000000 := by omega
  have hhl : d.hs.length ≤ 1000000 := by have := H.hl; omega
  have hmI : ∀ e ∈ d.I, e.2.2.l.length ≤ 1000000 := fun e he => by
    obtain ⟨j, hj⟩ := List.getElem?_of_mem he
    have h1 := AeE H.nd hj
    rw [H.eS] at h1
    have := (H.tp.may _ _ h1).n2
    omega
  refine A0 H.sep fun z1 hz1 _ => ?_
  refine AF (v := ptr G.g) (fun u hu K hk => ((H.at hu).ldt K).mpr hk) ?_
  refine AF (v := ptr G.gd) (fun u hu K hk => ((H.at hu).ldr K).mpr hk) ?_
  try simp only [fx, Nat.reduceAdd, forall_const]
  refine AF (v := d.xi) (fun u hu K hk => ((H.at hu).ldx K).mpr hk) ?_
  try simp only [fx, Nat.reduceAdd, forall_const]
  refine AF (v := d.yh) (fun u hu K hk => ((H.at hu).ldy K).mpr hk) ?_
  refine AL (Af (AbL (H.at hz1).to (by omega)) ?_)
  rintro _ z2 ⟨g', gt', gm', gs', ov', c', rfl, hz2⟩
  replace hz2 := hz1.join hz2
  refine ⟨Sep.dropL (As := toH g' gt' gm' gs' ov' q.1 d.t d.N c' d.S) hz2, ?_⟩
  have H2 := H.more hz2
  refine AL (Af (AcC H2.dor (show d.M.length ≤ 1000000 by omega) (show d.I.length ≤ 1000000 by omega) hmI) ?_)
  rintro _ z3 ⟨gd', gr', iv', lv', I', E, rfl, hI', hId', hz3⟩
  obtain ⟨hIM, hIn⟩ := AhO hI'
  replace hz3 := hz2.join hz3
  have hz3 : Sep w2 z3 ((doH gd' gr' iv' lv' q.1 d.t d.M I' ++ E) ++ (toH g' gt' gm' gs' ov' q.1 d.t d.N c' d.S ++ (d.L G q.1 ++ d.As))) := hz3
  have dr2 : ∀ {u : World}, Sep w2 u ((doH gd' gr' iv' lv' q.1 d.t d.M I' ++ E) ++ (toH g' gt' gm' gs' ov' q.1 d.t d.N c' d.S ++ (d.L G q.1 ++ d.As))) → Sep w2 u (d.L G q.1 ++ d.As) := fun h => Sep.dropL (As := toH g' gt' gm' gs' ov' q.1 d.t d.N c' d.S) (Sep.dropL h)
  refine ⟨dr2 hz3, ?_⟩
  refine AL (Af (H1 (H.at (dr2 hz3)).rids hidl) ?_)
  rintro xi' z4 hz4
  replace hz4 := hz3.join hz4
  refine ⟨dr2 (Sep.tail hz4), ?_⟩
  refine Cl (Af (Abw (H.at (dr2 (Sep.tail hz4))).rhs hhl) ?_)
  rintro yh' z5 hz5
  replace hz5 := hz4.join hz5
  have h1x : xi'.oneCell' = true := Sep.oneR (Sep.p1 hz5)
  have h1y : yh'.oneCell' = true := Sep.oneR hz5
  refine ⟨fun u => Sep w2 u _, hz5, ?_⟩
  refine ⟨.agg (Rdr.cells Cd (xi', yh')).toArray, fun u hu => by rw [Ht h1x h1y], ?_⟩
  refine ⟨.agg (Rdr.cells AR (ptr g', ptr gd', xi', yh')).toArray, fun u hu => by rw [GT rfl rfl], ?_⟩
  refine QN (bxQ hz5 fun gx' z6 hz6 => ?_)
  obtain ⟨G2, hG2⟩ : ∃ G2 : BwG, G2 = ⟨gx', g', gt', gm', gd', gr'⟩ := ⟨_, rfl⟩
  obtain ⟨d2, hd2⟩ : ∃ d2 : BwD, d2 = ⟨gs', c', ov', d.t, d.N, d.S, iv', lv', d.M, I', xi', yh', d.ids, d.hs, E ++ (d.L G q.1 ++ d.As)⟩ := ⟨_, rfl⟩
  have H6 : BwI w2 G2 q.1 i d2 z6 := by
    rw [hG2, hd2]
    refine ⟨?_, H.dat.sub fun A hA => List.mem_append_right _ (List.mem_append_right _ hA), H.sdat.sub fun A hA => List.mem_append_right _ (List.mem_append_right _ hA), H.datM.sub fun A hA => List.mem_append_right _ (List.mem_append_right _ hA), hId'.sub fun A hA => List.mem_append_left _ hA,
      H.tp, H.kb, hIM.trans H.eS, by show (I'.map (·.1)).Nodup; rw [hIn]; exact H.nd, ?_, H.hl, H.h0, H.hn, H.pos, H.cnt⟩
    · have h7 : Sep w2 z6 ([blk gx' (Rdr.cells AR (ptr g', ptr gd', xi', yh')).toArray AY, rows (rInt .i64) yh' d.hs, rows (rVec 32) xi' d.ids] ++ (doH gd' gr' iv' lv' q.1 d.t d.M I' ++ (E ++ (toH g' gt' gm' gs' ov' q.1 d.t d.N c' d.S ++ (d.L G q.1 ++ d.As))))) := by
        have := hz6
        simpa [List.append_assoc] using this
      have h8 := h7.perm (List.Perm.append_left [_, _, _, _, _, _, _] (GC E (toH g' gt' gm' gs' ov' q.1 d.t d.N c' d.S) (d.L G q.1 ++ d.As)))
      exact Sep.pick h8 [0, 2, 1, 7, 8, 9, 10, 11, 3, 4, 5, 6] 12
    · show I'.length ≤ i
      have := congrArg List.length hIn
      simp only [List.length_map] at this
      omega
  have hA2 : d2.As = E ++ (d.L G q.1 ++ d.As) := by rw [hd2]
  have hgx : gx' = G2.gx := by rw [hG2]
  rw [hgx]
  clear hd2 hG2 hz6 hz5 hz4 hz3 hz2 hz1
  have Hof : ∀ {n : Nat} {d' : BwD} {E' : List Asn} {u : World}, d'.As = E' ++ (d.L G q.1 ++ d.As) → BwI w2 G2 q.1 n d' u → BwI w2 G q.1 i { d with As := (d'.L G2 q.1 ++ E') ++ d.As } u := fun {n d' E' u} hA h => by
    refine H.more ?_
    have := h.sep
    rw [hA] at this
    rw [List.append_assoc]
    exact this
  refine ⟨fun u => BwI w2 G2 q.1 i d2 u, ?_, ?_⟩
  · have hAs : ∀ A ∈ d.As, A ∈ d2.As := fun A hA => by rw [hA2]; exact List.mem_append_right _ (List.mem_append_right _ hA)
    have Hq : ∀ {u : World} {Xs : List Asn}, Sep w2 u (Xs ++ (d2.L G2 q.1 ++ d2.As)) → BwI w2 G q.1 i { d with As := (d2.L G2 q.1 ++ (Xs ++ E)) ++ d.As } u := fun {u Xs} h => Hof (E' := Xs ++ E) (d' := { d2 with As := Xs ++ d2.As }) (by show Xs ++ d2.As = _; rw [hA2, List.append_assoc]) (H6.more h)
    have Ho := Hof hA2 H6
    simp only [fx, Nat.reduceAdd, forall_const]
    refine (Ho.ldt _).mpr ?_
    refine Af (Vu Ho.to (show d.N.length ≤ 1000000 by omega)) ?_
    rintro _ z7 ⟨g3, gm3, ov3, c3, rfl, hz7⟩
    replace hz7 : Sep w2 z7 (trH g3 gm3 ov3 d.t d.N c3 ++ (d2.L G2 q.1 ++ d2.As)) := H6.sep.join hz7
    simp only [fx, Nat.reduceAdd, forall_const, Option.isNone_some, Bool.not_false]
    refine ((Hq hz7).ldx _).mpr ?_
    rw [(Hq hz7).rids.len]
    refine ⟨fun a u => ∃ (j : Nat) (t3 : Tr) (N3 : List TN) (ov : Value), a = .int .i64 j ∧ j ≤ d.ids.length ∧ TM t3 N3 i ∧ (∀ x ∈ N3, x ∈ d.N) ∧ N3.length ≤ d.N.length ∧ Sep w2 u (trH g3 gm3 ov t3 N3 c3 ++ (d2.L G2 q.1 ++ d2.As)), fun a _ => (d.ids.length - RowKit.intOf a).toNat, ⟨0, d.t, d.N, ov3, rfl, by omega, H.tp.tm, fun _ h => h, Nat.le_refl _, hz7⟩, ?_⟩
    rintro _ z8 ⟨j, t3, N3, ov, rfl, hj, hTM, hsub, hlen3, hz8⟩ -
    simp only [fx, Nat.reduceAdd, forall_const]
    rw [Aj]
    refine ⟨fun h => ?_, fun h => H6.at (Sep.dropL (As := trH g3 gm3 ov t3 N3 c3) hz8)⟩
    have hlt : j < d.ids.length := by simp at h; omega
    obtain ⟨b, hb⟩ : ∃ b, d.ids[j]? = some b := ⟨_, List.getElem?_eq_getElem hlt⟩
    change ixs 32 _ _ _
    refine AB.ldN (q := rVec 32) (by decide) (Hq hz8).rids hb .i64 ?_
    refine Av hz8 (AS z8) fun g14 z9 hz9 => ?_
    refine AE (b := b) hz9 fun z10 hz10 => ?_
    simp only [Ai (Sep.blk hz10)]
    refine Af (XW (t := t3) (N := N3) (g := g3) (gm := gm3) (c := c3) (ov := ov) (As := blk g14 (Rdr.cells (rVec 32) b).toArray Aa :: (d2.L G2 q.1 ++ d2.As)) (Sep.pick hz10 [1, 2, 3, 0] 4) (fun x hx => List.mem_cons_of_mem _ (List.mem_append_right _ (hAs _ (H.dat x (hsub x hx))))) hTM.w hTM.nd (by omega) b) ?_
    rintro _ z11 (⟨_, rfl, hz11⟩ | ⟨hmv, gv, ov4, rfl, hz11⟩)
    · try simp only [fx, Nat.reduceAdd, forall_const]
      rw [wi64 (by omega) (by omega)]
      exact ⟨⟨j + 1, t3, N3, ov, by simp, by omega, hTM, hsub, hlen3, Sep.pick hz11 [0, 1, 2] 4⟩, by simp [RowKit.intOf]; omega⟩
    · try simp only [fx, Nat.reduceAdd, forall_const]
      rw [wi64 (by omega) (by omega)]
      exact ⟨⟨j + 1, mvT t3 N3 b, mvN t3 N3 b, ov4, by simp, by omega, hTM.move hmv, fun x hx => hsub x (List.mem_filter.1 hx).1, Nat.le_trans (List.length_filter_le _ _) hlen3, Sep.pick hz11 [0, 1, 2] 5⟩, by simp [RowKit.intOf]; omega⟩
  rintro z7 H7 _
  rw [hr2.len]
  refine ⟨fun a u => ∃ (j : Nat) (d' : BwD) (E' : List Asn), a = .int .i64 j ∧ j ≤ l2.length ∧ d'.As = E' ++ (d.L G q.1 ++ d.As) ∧ BwI w2 G2 q.1 (i + j) d' u, fun a _ => (l2.length - RowKit.intOf a).toNat, ⟨0, d2, E, rfl, by omega, hA2, H7⟩, ?_⟩
  rintro _ z8 ⟨j, d', E', rfl, hj, hA', H8⟩ -
  have Hf8 := H8.sep.fr0
  simp only [fx, Nat.reduceAdd, forall_const]
  rw [Aj]
  refine ⟨fun h => ?_, fun h => ?_⟩
  · have hlt : j < l2.length := by simp at h; omega
    obtain ⟨a, ha⟩ : ∃ a, l2[j]? = some a := ⟨_, List.getElem?_eq_getElem hlt⟩
    have ham := List.mem_of_getElem? ha
    have hak := hok2 a ham
    have ha' : (l2.map AC.t)[j]? = some a.t := by rw [List.getElem?_map, ha]; rfl
    have had : ARd w2.heap a := hrw2.d a ham
    have hafs : a.fs.length ≤ 1000 := by have := (hsm2 a ham).2; omega
    have hadl : a.d.length ≤ 1000 := (hsm2 a ham).1
    change ixs 4 _ _ _
    refine AB.ldN (q := AM) (by decide) (hrw2.rw.fr Hf8) ha' .i64 ?_
    refine Av H8.sep (HK z8) fun g16 z9 hz9 => ?_
    refine GS (b := a.t) hz9 (Gx had.d.one had.f.one1) fun z10 hz10 => ?_
    simp only [Cu (Sep.blk hz10), Ck (Sep.blk hz10), CI (Sep.blk hz10), B4 (Sep.blk hz10), Cb (Sep.blk hz10)]
    have H10 := H8.more (Bs := [_]) hz10
    refine Af (Vj H10 hC had hak hafs hadl (by omega)) ?_
    rintro _ z11 ⟨rfl, d3, E3, hA3, H11⟩
    simp only [fx, Nat.reduceAdd, forall_const, Bool.not_true]
    rw [wi64 (by omega) (by omega)]
    refine ⟨⟨j + 1, d3, E3 ++ ([blk g16 (Rdr.cells AM a.t).toArray Be] ++ E'), by simp, by omega, ?_, H11⟩, by simp [RowKit.intOf]; omega⟩
    rw [hA3]
    show E3 ++ ([blk g16 (Rdr.cells AM a.t).toArray Be] ++ d'.As) = _
    rw [hA']
    simp
  · have Ho := Hof hA' H8
    refine Af (QX (V := []) Ho (fun u hu => Lc _ _) (by simp) (by omega)) ?_
    rintro _ z9 ⟨rfl, H9⟩
    simp only [fx, Nat.reduceAdd, forall_const]
    refine Bu ?_
    have H8' : BwI w2 G2 q.1 (i + j) d' z9 := by
      refine H8.at ?_
      rw [hA']
      have h5 := H9.sep
      have h6 : Sep w2 z9 (d.L G q.1 ++ ((d'.L G2 q.1 ++ E') ++ d.As)) := h5
      have h7 := h6.perm (GC (d'.L G2 q.1 ++ E') (d.L G q.1) d.As).symm
      rw [List.append_assoc] at h7
      exact h7
    refine Af (QX (V := []) H8' (fun u hu => Lc _ _) (by simp) (by omega)) ?_
    rintro _ z10 ⟨rfl, H10⟩
    simp only [fx, Nat.reduceAdd, forall_const]
    exact hout H10.sep.fr0
end
end Go.Fx
namespace Go.Fx
end Go.Fx
namespace Go.Proofs.YtpdnddcodnpmeaaGreatDoor
open Go.ChangeShapes Go.WideShapes Go.ChangeAt Go.RowKit
theorem own : ownKnob Tryz.prog.godebug = none := by kernel_rfl
theorem Xp : laidOutB Tryz.prog = true := by kernel_rfl
end Go.Proofs.YtpdnddcodnpmeaaGreatDoor
namespace Go.Proofs.YtpdnddcodnpmeaaGreatDoor
open Go.ChangeShapes Go.WideShapes Go.ChangeAt Go.RowKit
abbrev WC : List (String × DataW Unit) := [("flurry/sha.cubes", Rows.laid_flurry_sha_cubes)]
theorem Aim : Tryz.prog.globalNamed "flurry/sha.cubes" = some 0 := by kernel_rfl
theorem Ail : (Tryz.prog.globals[0]?).map (·.type) = some Go.Fx.Bn := by kernel_rfl
theorem AgU (os : Os) (args : Array Value) : laidMetH Tryz.prog WC ((World.doorLaid Tryz.prog 400 os).forCall (fun _ _ => 0) ⟨#[], args, []⟩).memory :=
  laidMetH_of_parts3 (fuel := 8) (laidMet_of_run' 8 (by kernel_rfl) (by kernel_rfl)) (by kernel_rfl) (by kernel_rfl)
theorem AbI {W : World} (h : laidMetH Tryz.prog WC W) : Go.Fx.Cub W := by
  rw [MakeChecks.laidMetH_plain _ _ _ (by kernel_rfl)] at h
  obtain ⟨ps, ⟨g0, t0, cs0, f0, p0, q0, hg0, ht0, hv0, hd0, _, _⟩, _, _⟩ := h
  obtain rfl := Option.some.inj (Aim.symm.trans hg0)
  obtain rfl := Option.some.inj (Ail.symm.trans ht0)
  have hcs : cs0.toList = Go.Fx.wvs Go.Fx.HU := by
    obtain ⟨xs, m1, _, hx1, hlen, hn3, hel⟩ := DataW.trod_array Go.Fx.Aao hd0
    have c1 : Tryz.prog.cellsOf Go.Fx.Ur = 1 := by kernel_rfl
    have c64 : Tryz.prog.cellsOf Go.Fx.Bn = 64 := by kernel_rfl
    rw [c64] at hlen
    rw [c1] at hel
    have hd : (Rows.laid_flurry_sha_cubes : DataW Unit) = .agg (Go.Fx.HU.map fun x => .lit (.int .u32 x.toNat)) := by kernel_rfl
    rw [hd] at hx1
    simp only [Prod.mk.injEq, DataW.agg.injEq] at hx1
    apply List.ext_getElem?
    intro i
    by_cases hi : i < 64
    · have h1 := hel i hi
      have hx : xs[i]? = some (xs[i]'(by omega)) := List.getElem?_eq_getElem _
      rw [hx] at h1
      generalize xs[i]'(by omega) = y at *
      obtain ⟨k, e1, e2, _⟩ := DataW.trod_int Go.Fx.AgK h1
      have h2 := congrArg (·[i]?) hx1.1
      simp only [List.getElem?_map, hx, e2, Option.map_some] at h2
      have h3 : cs0.toList[i]? = some (.int .u32 k) := by
        have : ((cs0.toList.drop (i * 1)).take 1)[0]? = some (.int .u32 k) := by rw [e1]; rfl
        rw [List.getElem?_take_of_lt (by omega), List.getElem?_drop, Nat.mul_one, Nat.add_zero] at this
        exact this
      rw [h3, Go.Fx.wvs, List.getElem?_map]
      cases hc : Go.Fx.HU[i]? with
      | none => rw [hc] at h2; cases h2
      | some z =>
        rw [hc] at h2
        simp only [Option.map_some, Option.some.injEq, DataW.lit.injEq, Lit.int.injEq, true_and] at h2
        rw [Option.map_some, ← h2]
        rfl
    · rw [List.getElem?_eq_none (by omega), List.getElem?_eq_none (by rw [Go.Fx.wvs, List.length_map]; show 64 ≤ i; omega)]
  have hv1 := hv0
  unfold World.var? at hv1
  rw [hg0] at hv1
  simp only [Option.bind_some] at hv1
  cases hh : W.heap[0]? with
  | none => rw [hh] at hv1; cases hv1
  | some o =>
    rw [hh] at hv1
    cases o with
    | cells cs t fr =>
      simp only [Option.some.injEq] at hv1
      subst hv1
      refine ⟨t, fr, ?_⟩
      rw [hh]
      have : cs = (Go.Fx.wvs Go.Fx.HU).toArray := by apply Array.ext'; simpa using hcs
      rw [this]
    | _ => cases hv1
end Go.Proofs.YtpdnddcodnpmeaaGreatDoor
namespace Go.Proofs.YtpdnddcodnpmeaaGreatDoor
open Go.ChangeShapes Go.WideShapes Go.ChangeAt Go.RowKit
set_option maxRecDepth 100000 in
theorem Uu (os : Os) (started : os.Started) (H : Type) (enc : TypeId × Value → H) :
    ReturnsInHanded {} Tryz.checked os 7 .any (fun w args => (Rows.topoClonesSpec.pre enc Tryz.prog Tryz.f7 [] false w args ∧ laidMetH Tryz.prog WC w) ∧ sizedMet enc Tryz.prog Tryz.f7 (OpenSpec.ofChange Rows.topoClonesSpec) false w args) (Rows.topoClonesSpec.post enc Tryz.prog Tryz.f7 false true false false) := by
  refine returnsInHanded_of_change_and (C := Tryz.checked) (X := fun w _ => laidMetH Tryz.prog WC w) (fun _ _ _ hh h => h.of_heap hh) own started (by kernel_rfl) Tryz.func7
    (ChangeSpec.witness_shaped (enc := enc) (C := Tryz.checked) (os := os) (X := fun w _ => laidMetH Tryz.prog WC w) false (World.doorLaid Tryz.prog 400 os) #[((Value.agg ((List.replicate 4 (Value.int IntKind.i64 0) ++ List.replicate 32 (Value.int IntKind.u8 0) ++ List.replicate 2 (Value.int IntKind.i64 0) : List Value).toArray))), .slice none 0 0, .slice none 0 0] 8 rfl (World.shaped_of_RefB (by kernel_rfl) (by kernel_rfl)) (by kernel_rfl) (by kernel_rfl) (by kernel_rfl) (AgU os _)) ?_
  intro W base args ds gs before hval0 hW _ _ hL _
  have hcub : Go.Fx.Cub W := AbI hL
  have hval : ∀ (j : Nat) t v, Tryz.f7.params[j]? = some t → args[j]? = some v → Value.okWide Tryz.prog W .any base t v := hval0
  have hW' := hW
  obtain ⟨p, q, hA0, hV, rfl, hfz, hnd⟩ := hW
  have hA : DataW.TrodAll enc Tryz.prog W 0 (fun _ => true) true Tryz.f7.params.toList args.toList ds p := hA0
  rw [Tryz.params7] at hA hval
  obtain ⟨v0, vs0, d0, ds0, p0, q0, hargs, rfl, rfl, h0, r0⟩ := trodAll_cons hA
  obtain ⟨v1, vs1, d1, ds1, p1, q1, rfl, rfl, rfl, h1, r1⟩ := trodAll_cons r0
  obtain ⟨v2, vs2, d2, ds2, p2, q2, rfl, rfl, rfl, h2, r2⟩ := trodAll_cons r1
  obtain ⟨rfl, rfl, rfl⟩ := trodAll_nil r2
  obtain rfl : args = #[v0, v1, v2] := by cases args; simp_all
  obtain ⟨rfl, rfl⟩ := trodVars_none hV
  obtain ⟨cs0, rfl, sz0⟩ := okWide_struct Tryz.underlying27 (hval 0 27 v0 rfl rfl)
  have k0 := h0
  have lt0 : ∀ x ∈ p0, x.block < W.heap.size := by obtain ⟨m, hm⟩ := k0; exact DataW.trod_lt m _ _ _ hm
  obtain ⟨f0, hf0⟩ := h0
  have hx0 := Go.Fx.Ps hf0
  obtain ⟨x0, rfl, rd0⟩ := hx0
  obtain ⟨a1, len1, cap1, rfl⟩ := okWide_slice Tryz.underlying28 (hval 1 28 v1 rfl rfl)
  have k1 := h1
  have lt1 : ∀ x ∈ p1, x.block < W.heap.size := by obtain ⟨m, hm⟩ := k1; exact DataW.trod_lt m _ _ _ hm
  obtain ⟨f1, hf1⟩ := h1
  have hx1 := Go.Fx.IC hf1
  obtain ⟨l1, rd1⟩ := hx1
  obtain ⟨a2, len2, cap2, rfl⟩ := okWide_slice Tryz.underlying28 (hval 2 28 v2 rfl rfl)
  have k2 := h2
  have lt2 : ∀ x ∈ p2, x.block < W.heap.size := by obtain ⟨m, hm⟩ := k2; exact DataW.trod_lt m _ _ _ hm
  obtain ⟨f2, hf2⟩ := h2
  have hx2 := Go.Fx.IC hf2
  obtain ⟨l2, rd2⟩ := hx2
  clear hA0 hval0
  have hcal := Go.Fx.AeY (q := x0) hcub rd0 rd1 rd2
  refine Calls.mono hcal fun e W' ⟨v, he, hv, hf⟩ => ?_
  subst hv
  subst he
  have bel : Below W.heap.size W W' := hf.below (by simp)
  exact ⟨_, rfl, _, _, _, [], _, [], hW', trodAll_mk1 (shut_bool Tryz.underlying4 _), (trodAll_cons_mk (Below.trod Xp (by kernel_rfl) (of_decide_eq_true (by kernel_rfl)) k0 bel lt0) (trodAll_cons_mk (Below.trod Xp (by kernel_rfl) (of_decide_eq_true (by kernel_rfl)) k1 bel lt1) (trodAll_cons_mk (Below.trod Xp (by kernel_rfl) (of_decide_eq_true (by kernel_rfl)) k2 bel lt2) trodAll_mk0))), rfl, bel.frame _, fun h => by cases h⟩
theorem AdR : Rows.TopoClonesSaid :=
  OpenClaim.holds_of_wide 7 Tryz.f7 rfl rfl rfl rfl rfl rfl rfl ⟨rfl, rfl, rfl, rfl, rfl⟩ rfl rfl rfl rfl rfl (by kernel_rfl) Tryz.func7 (by kernel_rfl)
    (of_decide_eq_true (by kernel_rfl)) (by unfold Func.isWrapper; first | (rw [if_pos (by decide +kernel)]; kernel_rfl) | (rw [if_neg (by decide +kernel)]; exact ⟨rfl, rfl⟩))
    (fun os started H enc _ => Uu os started H enc)
theorem topoClonesCard : Rows.TopoClonesCardSaid :=
  Claim7.holds_tied_plain_at .later [] [.data] true (true, "31b91c773755166b2259662efe0290c201ce4ed0645ef922d45d50ed6dd0d4b1") false
    AdR (fun _ h => by cases h) (by kernel_rfl) (fun _ h => by cases h) topoClones_row_tie rfl ⟨rfl, rfl⟩ (by kernel_rfl) rfl
    (fun f fn hf hfn => by
      obtain rfl : f = 7 := Option.some.inj ((show Tryz.prog.funcNamed "flurry/flurrylaw19.TopoClones" = some 7 by kernel_rfl).symm.trans hf) |>.symm
      obtain rfl : fn = Tryz.f7 := (Option.some.inj (Tryz.func7.symm.trans hfn)).symm
      exact ⟨by kernel_rfl, fun j t ht => by
        rw [Tryz.params7] at ht
        have hm : t ∈ [27, 28, 28] := by simpa using Array.mem_of_getElem? ht
        have hall : ([27, 28, 28].all fun u => !Tryz.prog.wantsStandIn u) = true := by kernel_rfl
        exact (show Tryz.prog.wantsStandIn t = false by simpa using List.all_eq_true.1 hall t hm)⟩)
    (by kernel_rfl)
#print axioms topoClonesCard
end Go.Proofs.YtpdnddcodnpmeaaGreatDoor
