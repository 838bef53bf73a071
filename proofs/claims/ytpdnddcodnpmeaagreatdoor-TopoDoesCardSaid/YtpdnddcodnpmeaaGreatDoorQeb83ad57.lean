/-
  What is proved: for all arguments the law TopoDoes returns true, and its arguments read as they did. Conditions: none.
-/
import Derived.Test.YtpdnddcodnpmeaaGreatDoorRows
import Derived.WalkKit
import Derived.ProofKit
import Derived.OpenShut
import Derived.ChangeOld
import Derived.Below
import Derived.Carry
import Derived.Test.YtpdnddcodnpmeaaGreatDoorCards
import Derived.Test.YtpdnddcodnpmeaaGreatDoorTie
import Derived.LaidMore
import Derived.Stop.Joined
import Derived.Test.YtpdnddcodnpmeaaGreatDoorQ02d63389
import Derived.Test.YtpdnddcodnpmeaaGreatDoorQ50ca596d
import Derived.Test.YtpdnddcodnpmeaaGreatDoorQ3647d20d
import Derived.Test.YtpdnddcodnpmeaaGreatDoorQb38b424b
import Derived.Test.YtpdnddcodnpmeaaGreatDoorQdef0834c
import Derived.Test.YtpdnddcodnpmeaaGreatDoorQb572fa7c
import Derived.Test.YtpdnddcodnpmeaaGreatDoorQ6e297fb1
import Derived.Test.YtpdnddcodnpmeaaGreatDoorQf80623fe
import Derived.Test.YtpdnddcodnpmeaaGreatDoorQdcbdfa96
import Derived.Test.YtpdnddcodnpmeaaGreatDoorQ6685d359
import Derived.Test.YtpdnddcodnpmeaaGreatDoorQ5b4f4b86
set_option linter.unusedVariables false
set_option linter.unusedSimpArgs false
namespace Go.Fx
def m222 : Vec 32 := ⟨222 :: List.replicate 31 0, by decide⟩
theorem AfM {w : World} (K : Value → Prop) : rdP P (Instr.build Aa #[(0, .int .u8 222)]) w K = K (kv m222) := Ca (r := rVec 32) (a := m222) (by kernel_rfl) K
theorem AbU (y : Sn) : sameS y y = true := by simp [sameS]
section
variable {w0 z : World} {G : BwG} {n : Nat} {p : Par} {d : BwD} {vv : Value} {V : List Vt}
set_option maxHeartbeats 2000000 in
theorem YR (H : BwI w0 G p n d z) (hv : ∀ u, Sep w0 u d.As → Rows' Ar u.heap vv V) (hVl : V.length ≤ 1000000) (hn : n ≤ 100) :
    cal P F8 [ptr G.gx, vv] z fun r z' => r = .bool true ∧ BwI w0 G p n d z' := by
  refine O8 fun R hR => ?_
  unfold IS
  have hcnt := H.cnt
  have hidn := H.hn
  have hlenI := H.lenI
  have hMl : d.M.length = d.N.length := (FS H.kb).symm
  have hNl : d.N.length ≤ 1000000 := by omega
  have hMl2 : d.M.length ≤ 1000000 := by omega
  have hIl : d.I.length ≤ 1000000 := by omega
  have Hm : ∀ {u : World} {Bs : List Asn}, Sep w0 u (Bs ++ (d.L G p ++ d.As)) → BwI w0 G p n { d with As := Bs ++ d.As } u := fun h => H.more h
  have hvv : ∀ {u : World} {Bs : List Asn}, Sep w0 u (Bs ++ (d.L G p ++ d.As)) → Rows' Ar u.heap vv V := fun h => hv _ (Sep.dropL (As := d.L G p) (Sep.dropL h))
  have rt : ∀ {u : World} {Bs : List Asn}, Sep w0 u (Bs ++ (d.L G p ++ d.As)) → ∀ K : Value → Prop, K (ptr G.g) → ld1 (.pointer (some ⟨G.gx, 0, none⟩)) u.heap K := fun h K hk => ((Hm h).ldt K).mpr hk
  have rr : ∀ {u : World} {Bs : List Asn}, Sep w0 u (Bs ++ (d.L G p ++ d.As)) → ∀ K : Value → Prop, K (ptr G.gd) → ld1 (.pointer (some ⟨G.gx, 1, none⟩)) u.heap K := fun h K hk => ((Hm h).ldr K).mpr hk
  have rT : ∀ {u : World} {Bs : List Asn}, Sep w0 u (Bs ++ (d.L G p ++ d.As)) → ∀ K : Value → Prop, K (ptr G.gr) → ld1 (.pointer (some ⟨G.gd, 4, none⟩)) u.heap K := fun h K hk => ((Hm h).dor.ldT K).mpr hk
  simp only [fx, Nat.reduceAdd, forall_const]
  refine (H.ldt _).mpr ?_
  refine cal_i (AbT H.to) ?_
  rintro _ z1 ⟨rfl, hf1⟩
  have hz1 := H.sep.old hf1
  simp only [fx, Nat.reduceAdd, forall_const]
  refine Ax hz1 (AP z1) fun g5 z2 hz2 => ?_
  refine AB hz2 fun z3 hz3 => ?_
  refine drH_S hz3 fun z4 hz4 _ => ?_
  refine ⟨kv d.t.root, fun u hu => (Ah (Sep.blk hu) _).mpr rfl, ?_⟩
  refine AG (v := ptr G.gd) (fun u hu K hk => rr (Bs := [_]) hu K hk) ?_
  try simp only [fx, Nat.reduceAdd, forall_const]
  refine AG (v := ptr G.gr) (fun u hu K hk => rT (Bs := [_]) hu K hk) ?_
  try simp only [fx, Nat.reduceAdd, forall_const]
  refine ⟨kv d.t.root, fun u hu => ((Hm (Bs := [_]) hu).dor.ldR _).mpr rfl, ?_⟩
  refine ⟨.bool (!decide (d.t.root = d.t.root)), fun u hu => (CB _).mpr rfl, ?_⟩
  simp only [fx, Nat.reduceAdd, forall_const, decide_true, Bool.not_true]
  refine Bi ?_
  refine AG (v := ptr G.gd) (fun u hu K hk => rr (Bs := [_]) hu K hk) ?_
  try simp only [fx, Nat.reduceAdd, forall_const]
  refine AG (v := ptr G.gr) (fun u hu K hk => rT (Bs := [_]) hu K hk) ?_
  try simp only [fx, Nat.reduceAdd, forall_const]
  refine AG (v := .int .i64 d.t.ht) (fun u hu K hk => by
    obtain ⟨T, fr, hc⟩ := (Hm (Bs := [_]) hu).dor.rf.cell
    exact (A2 hc K).mpr hk) ?_
  simp only [fx, Nat.reduceAdd, forall_const, bne_self_eq_false]
  refine Bi ?_
  refine AG (v := ptr G.g) (fun u hu K hk => rt (Bs := [_]) hu K hk) ?_
  refine AG (v := ptr G.gd) (fun u hu K hk => rr (Bs := [_]) hu K hk) ?_
  try simp only [fx, Nat.reduceAdd, forall_const]
  refine AG (v := ptr G.gr) (fun u hu K hk => rT (Bs := [_]) hu K hk) ?_
  try simp only [fx, Nat.reduceAdd, forall_const]
  refine AG (v := d.lv) (fun u hu K hk => by
    obtain ⟨T, fr, hc⟩ := (Hm (Bs := [_]) hu).dor.rf.cell
    exact (AR hc K).mpr hk) ?_
  rw [(Hm (Bs := [_]) hz4).dor.rf.len]
  refine efS_i (cal_i (Wf (Hm (Bs := [_]) hz4).to hNl) ?_)
  rintro _ _ ⟨rfl, rfl⟩
  refine ⟨hz4, ?_⟩
  rw [show ({ d with As := [blk g5 (Rdr.cells (rVec 32) d.t.root).toArray Aa] ++ d.As } : BwD).M.length = d.N.length from hMl]
  simp only [fx, Nat.reduceAdd, forall_const, bne_self_eq_false]
  refine Bi ?_
  refine AG (v := ptr G.g) (fun u hu K hk => rt (Bs := [_]) hu K hk) ?_
  refine AG (v := ptr G.gd) (fun u hu K hk => rr (Bs := [_]) hu K hk) ?_
  refine efS_i (cal_i (JQ H.tp (Hm (Bs := [_]) hz4).to) ?_)
  rintro _ z5 ⟨k1, hk1, rfl, hf5⟩
  have hz5 := hz4.old hf5
  refine ⟨hz5, ?_⟩
  refine efS_i (cal_i (Ua H.tpM (Hm (Bs := [_]) hz5).dor hIl) ?_)
  rintro _ z6 ⟨k2, hk2, rfl, hf6⟩
  rw [H.eS] at hk2
  obtain rfl := hk2.one hk1
  have hz6 := hz5.old hf6
  refine ⟨hz6, ?_⟩
  refine ⟨.bool (!decide (k2 = k2)), fun u hu => (CB _).mpr rfl, ?_⟩
  simp only [fx, Nat.reduceAdd, forall_const, decide_true, Bool.not_true]
  refine rt (Bs := [_]) hz6 _ ?_
  refine cal_i (Aco (Hm (Bs := [_]) hz6).to hNl) ?_
  rintro _ z7 ⟨g', gm', ov', c', rfl, hz7⟩
  replace hz7 := hz6.join hz7
  have hz7 : Sep w0 z7 (trH g' gm' ov' d.t d.N c' ++ (d.L G p ++ d.As)) := Sep.pick hz7 [0, 1, 2] 4
  simp only [fx, Nat.reduceAdd, forall_const, Option.isNone_some]
  refine ((Hm hz7).ldx _).mpr ?_
  refine cal_i (Jb (Hm hz7).rids (show d.ids.length ≤ 1000000 by omega)) ?_
  rintro cv z8 hz8
  replace hz8 := hz7.join hz8
  rw [AfM]
  refine bldI hz8 fun q1 z9 hz9 => ?_
  refine appI hz9.p1 (Sep.rows hz9) (show d.ids.length ≤ 1000000 by omega) fun av z10 hz10 => ?_
  obtain ⟨Y, hY⟩ : ∃ Y, Y = d.ids ++ [m222] := ⟨_, rfl⟩
  have hYl : Y.length ≤ 1000000 := by rw [hY]; simp; omega
  have hz11 : Sep w0 z10 (rows (rVec 32) av Y :: (trH g' gm' ov' d.t d.N c' ++ (d.L G p ++ d.As))) := by rw [hY]; exact hz10.d1
  obtain ⟨Bs, hBs⟩ : ∃ Bs, Bs = rows (rVec 32) av Y :: trH g' gm' ov' d.t d.N c' := ⟨_, rfl⟩
  have hz11 : Sep w0 z10 (Bs ++ (d.L G p ++ d.As)) := by rw [hBs]; exact hz11
  have rY : ∀ {u : World} {Xs : List Asn}, Sep w0 u (Xs ++ (Bs ++ (d.L G p ++ d.As))) → Rows' (rVec 32) u.heap av Y := fun h => by
    have h := Sep.dropL h
    rw [hBs] at h
    exact Sep.rows h
  have rC : ∀ {u : World} {Xs : List Asn}, Sep w0 u (Xs ++ (Bs ++ (d.L G p ++ d.As))) → TrR u.heap g' gm' ov' d.t d.N c' := fun h => by
    have h := Sep.dropL h
    rw [hBs] at h
    exact PD (As := d.L G p ++ d.As) h.tail (H.dat.sub fun A hA => List.mem_append_right _ hA)
  clear hBs
  rw [(rY (Xs := []) hz11).len]
  refine ⟨fun v u => ∃ j : Nat, v = .int .i64 j ∧ j ≤ Y.length ∧ Sep w0 u (Bs ++ (d.L G p ++ d.As)), fun v _ => (Y.length - RowKit.intOf v).toNat, ⟨0, rfl, by omega, hz11⟩, ?_⟩
  rintro _ z12 ⟨j, rfl, hj, hz12⟩ -
  simp only [fx, Nat.reduceAdd, forall_const]
  rw [Ai]
  refine ⟨fun h => ?_, fun h => hR _ _ ⟨rfl, H.at (Sep.dropL hz12)⟩⟩
  have hjl : j < Y.length := by simp at h; omega
  obtain ⟨b, hb⟩ : ∃ b, Y[j]? = some b := ⟨_, List.getElem?_eq_getElem hjl⟩
  change ixs 32 _ _ _
  refine Rows'.ldN (q := rVec 32) (by decide) (rY (Xs := []) hz12) hb .i64 ?_
  refine Ax hz12 (AP z12) fun g9 z13 hz13 => ?_
  refine AB (b := b) hz13 fun z14 hz14 => ?_
  obtain ⟨y, hy⟩ : ∃ y, y = (svM d.S b).getD snZ := ⟨_, rfl⟩
  obtain ⟨e, he⟩ : ∃ e : Int, e = if (svM d.S b).isSome then 0 else 4 := ⟨_, rfl⟩
  have hyl : y.l.length ≤ 1000000 := by
    rw [hy]
    cases hq : svM d.S b with
    | none => simp [snZ]
    | some x => have := (H.tp.may b x hq).n2; show x.l.length ≤ _; omega
  refine drH_S hz14 fun z15 hz15 _ => ?_
  refine ⟨fun a e' u => ∃ g10 v1, a = ptr g10 ∧ e' = .int .i64 e ∧ Sep w0 u (blk g10 (Rdr.cells Ap (snr v1 y)).toArray Aj :: rows Ab v1 y.l :: blk g9 (Rdr.cells (rVec 32) b).toArray Aa :: (Bs ++ (d.L G p ++ d.As))), ?_, ?_⟩
  · refine AG (v := ptr G.g) (fun u hu K hk => rt (Bs := _ :: Bs) hu K hk) ?_
    refine ⟨kv b, fun u hu => (Ah (Sep.blk hu) _).mpr rfl, ?_⟩
    refine ⟨?_, ?_, trivial⟩
    · refine B2 (cal_i (UE H.tp (Hm (Bs := _ :: Bs) hz15).to b) ?_)
      rintro _ z16 ⟨v1, rfl, hz16⟩
      rw [← hy] at hz16 ⊢
      have hz17 := hz15.join hz16
      refine ⟨fun u => Sep w0 u _, hz17, ?_⟩
      try simp only [fx, Nat.reduceAdd, forall_const]
      refine efS_i (Ax hz17 (Bh z16) fun g10 z18 hz18 => ⟨hz18.tail, ?_⟩)
      refine A3 (AH (b := snr v1 y) hz18 (AA (Sep.oneR hz18.p1)) fun z19 hz19 => ?_)
      exact ⟨g10, v1, by first | rfl | trivial, by rw [he], hz19⟩
    · refine efS_i (Ax hz15 (Bh z15) fun g10 z16 hz16 => ⟨hz16.tail, ?_⟩)
      refine Br (cal_i (UE H.tp (Hm (Bs := _ :: _ :: Bs) hz16).to b) ?_)
      rintro _ z17 ⟨v1, rfl, hz17⟩
      rw [← hy] at hz17 ⊢
      have hz18 := hz16.join hz17
      try simp only [fx, Nat.reduceAdd, forall_const]
      refine A3 (AH (b := snr v1 y) hz18.p1 (AA (Sep.oneR hz18)) fun z19 hz19 => ?_)
      exact ⟨g10, v1, by first | rfl | trivial, by rw [he], hz19⟩
  rintro _ _ z16 ⟨g10, v1, rfl, rfl, hz16⟩ _
  refine drH_S hz16 fun z17 hz17 _ => ?_
  have hmI : ∀ k x, IM d.I k = some x → x.l.length ≤ 1000000 := fun k x hx => by rw [H.eS] at hx; have := (H.tp.may k x hx).n2; omega
  refine ⟨fun a e' u => ∃ g12 v2, a = ptr g12 ∧ e' = .int .i64 e ∧ Sep w0 u (blk g12 (Rdr.cells Ap (snr v2 y)).toArray Aj :: rows Ab v2 y.l :: blk g10 (Rdr.cells Ap (snr v1 y)).toArray Aj :: rows Ab v1 y.l :: blk g9 (Rdr.cells (rVec 32) b).toArray Aa :: (Bs ++ (d.L G p ++ d.As))), ?_, ?_⟩
  · refine AG (v := ptr G.gd) (fun u hu K hk => rr (Bs := _ :: _ :: _ :: Bs) hu K hk) ?_
    refine ⟨kv b, fun u hu => (Ah (Sep.blk hu.p2) _).mpr rfl, ?_⟩
    refine ⟨?_, ?_, trivial⟩
    · refine B2 (cal_i (TW (Hm (Bs := _ :: _ :: _ :: Bs) hz17).dor hIl hmI b) ?_)
      rintro _ z18 ⟨v2, rfl, hz18⟩
      rw [H.eS, ← hy] at hz18 ⊢
      have hz19 := hz17.join hz18
      refine ⟨fun u => Sep w0 u _, hz19, ?_⟩
      try simp only [fx, Nat.reduceAdd, forall_const]
      refine efS_i (Ax hz19 (Bh z18) fun g12 z20 hz20 => ⟨hz20.tail, ?_⟩)
      refine A3 (AH (b := snr v2 y) hz20 (AA (Sep.oneR hz20.p1)) fun z21 hz21 => ?_)
      exact ⟨g12, v2, by first | rfl | trivial, by rw [he], hz21⟩
    · refine efS_i (Ax hz17 (Bh z17) fun g12 z18 hz18 => ⟨hz18.tail, ?_⟩)
      refine Br (cal_i (TW (Hm (Bs := _ :: _ :: _ :: _ :: Bs) hz18).dor hIl hmI b) ?_)
      rintro _ z19 ⟨v2, rfl, hz19⟩
      rw [H.eS, ← hy] at hz19 ⊢
      have hz20 := hz18.join hz19
      try simp only [fx, Nat.reduceAdd, forall_const]
      refine A3 (AH (b := snr v2 y) hz20.p1 (AA (Sep.oneR hz20)) fun z21 hz21 => ?_)
      exact ⟨g12, v2, by first | rfl | trivial, by rw [he], hz21⟩
  rintro _ _ z18 ⟨g12, v2, rfl, rfl, hz18⟩ _
  obtain ⟨nB, hnB⟩ : ∃ nB, nB = (nb b d.N).1 := ⟨_, rfl⟩
  obtain ⟨e2, he2⟩ : ∃ e2 : Int, e2 = if (blkOf b d.N).isSome then 0 else 4 := ⟨_, rfl⟩
  have hnM : (nb b d.M).1 = nB := by rw [hnB, kb_nb H.kb]
  have heM : (if (blkOf b d.M).isSome then (0 : Int) else 4) = e2 := by rw [he2, HN H.kb]
  refine drH_S hz18 fun z19 hz19 _ => ?_
  refine ⟨fun a e' u => ∃ g14 v3, a = ptr g14 ∧ e' = .int .i64 e2 ∧ Sep w0 u (blk g14 (Rdr.cells Au (nB.p, nB.h, v3)).toArray Al :: ownB v3 nB.d :: blk g12 (Rdr.cells Ap (snr v2 y)).toArray Aj :: rows Ab v2 y.l :: blk g10 (Rdr.cells Ap (snr v1 y)).toArray Aj :: rows Ab v1 y.l :: blk g9 (Rdr.cells (rVec 32) b).toArray Aa :: (Bs ++ (d.L G p ++ d.As))), ?_, ?_⟩
  · refine AG (v := ptr G.g) (fun u hu K hk => rt (Bs := _ :: _ :: _ :: _ :: _ :: Bs) hu K hk) ?_
    refine ⟨kv b, fun u hu => (Ah (Sep.blk hu.p4) _).mpr rfl, ?_⟩
    refine ⟨?_, ?_, trivial⟩
    · refine B2 (cal_i (Wj (Hm (Bs := _ :: _ :: _ :: _ :: _ :: Bs) hz19).to H.tp.tm.w b) ?_)
      rintro _ z20 ⟨v3, rfl, hz20⟩
      rw [← hnB] at hz20 ⊢
      have hz21 := hz19.join hz20
      refine ⟨fun u => Sep w0 u _, hz21, ?_⟩
      try simp only [fx, Nat.reduceAdd, forall_const]
      refine efS_i (Ax hz21 (Bt z20) fun g14 z22 hz22 => ⟨hz22.tail, ?_⟩)
      refine A3 (Bd (b := (nB.p, nB.h, v3)) hz22 (A8 (Sep.one hz22.p1)) fun z23 hz23 => ?_)
      exact ⟨g14, v3, by first | rfl | trivial, by rw [he2], hz23⟩
    · refine efS_i (Ax hz19 (Bt z19) fun g14 z20 hz20 => ⟨hz20.tail, ?_⟩)
      refine Br (cal_i (Wj (Hm (Bs := _ :: _ :: _ :: _ :: _ :: _ :: Bs) hz20).to H.tp.tm.w b) ?_)
      rintro _ z21 ⟨v3, rfl, hz21⟩
      rw [← hnB] at hz21 ⊢
      have hz22 := hz20.join hz21
      try simp only [fx, Nat.reduceAdd, forall_const]
      refine A3 (Bd (b := (nB.p, nB.h, v3)) hz22.p1 (A8 (Sep.one hz22)) fun z23 hz23 => ?_)
      exact ⟨g14, v3, by first | rfl | trivial, by rw [he2], hz23⟩
  rintro _ _ z20 ⟨g14, v3, rfl, rfl, hz20⟩ _
  refine drH_S hz20 fun z21 hz21 _ => ?_
  obtain ⟨v4, hv4⟩ : ∃ v4, v4 = (nb b d.M).2 := ⟨_, rfl⟩
  have hr4 : ∀ {u : World} {Xs : List Asn}, Sep w0 u (Xs ++ (d.L G p ++ d.As)) → RdB u.heap v4 nB.d := fun h => by
    have := (Hm h).dor.rf.nb b
    rw [hv4, ← hnM]
    exact this
  have h14 : v4.oneCell' = true := (hr4 (Xs := _ :: _ :: _ :: _ :: _ :: _ :: _ :: Bs) hz21).one
  refine ⟨fun a e' u => ∃ g16, a = ptr g16 ∧ e' = .int .i64 e2 ∧ Sep w0 u (blk g16 (Rdr.cells Au (nB.p, nB.h, v4)).toArray Al :: blk g14 (Rdr.cells Au (nB.p, nB.h, v3)).toArray Al :: ownB v3 nB.d :: blk g12 (Rdr.cells Ap (snr v2 y)).toArray Aj :: rows Ab v2 y.l :: blk g10 (Rdr.cells Ap (snr v1 y)).toArray Aj :: rows Ab v1 y.l :: blk g9 (Rdr.cells (rVec 32) b).toArray Aa :: (Bs ++ (d.L G p ++ d.As))), ?_, ?_⟩
  · try simp only [fx, Nat.reduceAdd, forall_const]
    refine AG (v := ptr G.gd) (fun u hu K hk => rr (Bs := _ :: _ :: _ :: _ :: _ :: _ :: _ :: Bs) hu K hk) ?_
    try simp only [fx, Nat.reduceAdd, forall_const]
    refine AG (v := ptr G.gr) (fun u hu K hk => rT (Bs := _ :: _ :: _ :: _ :: _ :: _ :: _ :: Bs) hu K hk) ?_
    refine ⟨kv b, fun u hu => (Ah (Sep.blk (Sep.pick hu [6] 7)) _).mpr rfl, ?_⟩
    refine ⟨?_, ?_, trivial⟩
    · refine B2 (cal_i (V1 (Hm (Bs := _ :: _ :: _ :: _ :: _ :: _ :: _ :: Bs) hz21).dor.rf hMl2 b) ?_)
      rintro _ z22 ⟨rfl, hf22⟩
      have hz22 := hz21.old hf22
      refine ⟨fun u => Sep w0 u _, hz22, ?_⟩
      rw [heM]
      try simp only [fx, Nat.reduceAdd, forall_const]
      refine efS_i (Ax hz22 (Bt z22) fun g16 z23 hz23 => ⟨hz23.tail, ?_⟩)
      rw [show bq (nb b d.M).1 (nb b d.M).2 = bq nB v4 by rw [hnM, hv4]]
      refine A3 (Bd (b := (nB.p, nB.h, v4)) hz23 (A8 h14) fun z24 hz24 => ?_)
      exact ⟨g16, by first | rfl | trivial, by first | rfl | trivial, hz24⟩
    · refine efS_i (Ax hz21 (Bt z21) fun g16 z22 hz22 => ⟨hz22.tail, ?_⟩)
      refine Br (cal_i (V1 (Hm (Bs := _ :: _ :: _ :: _ :: _ :: _ :: _ :: _ :: Bs) hz22).dor.rf hMl2 b) ?_)
      rintro _ z23 ⟨rfl, hf23⟩
      have hz23 := hz22.old hf23
      rw [show (if (blkOf b ({ d with As := _ } : BwD).M).isSome then (0 : Int) else 4) = e2 from heM, show bq (nb b ({ d with As := _ } : BwD).M).1 (nb b ({ d with As := _ } : BwD).M).2 = bq nB v4 by show bq (nb b d.M).1 (nb b d.M).2 = _; rw [hnM, hv4]]
      try simp only [fx, Nat.reduceAdd, forall_const]
      refine A3 (Bd (b := (nB.p, nB.h, v4)) hz23 (A8 h14) fun z24 hz24 => ?_)
      exact ⟨g16, by first | rfl | trivial, by first | rfl | trivial, hz24⟩
  rintro _ _ z22 ⟨g16, rfl, rfl, hz22⟩ _
  obtain ⟨Cs, hCs⟩ : ∃ Cs, Cs = blk g16 (Rdr.cells Au (nB.p, nB.h, v4)).toArray Al :: blk g14 (Rdr.cells Au (nB.p, nB.h, v3)).toArray Al :: ownB v3 nB.d :: blk g12 (Rdr.cells Ap (snr v2 y)).toArray Aj :: rows Ab v2 y.l :: blk g10 (Rdr.cells Ap (snr v1 y)).toArray Aj :: rows Ab v1 y.l :: blk g9 (Rdr.cells (rVec 32) b).toArray Aa :: Bs := ⟨_, rfl⟩
  have hz22 : Sep w0 z22 (Cs ++ (d.L G p ++ d.As)) := by rw [hCs]; exact hz22
  have k9 : ∀ {u : World}, Sep w0 u (Cs ++ (d.L G p ++ d.As)) → ∀ K : Value → Prop, K (kv b) → ldN 32 (.pointer (some ⟨g9, 0, none⟩)) u.heap K := fun h K hk => by rw [hCs] at h; exact (Ah (Sep.blk (Sep.pick h [7] 8)) K).mpr hk
  have k10 : ∀ {u : World}, Sep w0 u (Cs ++ (d.L G p ++ d.As)) → ∀ K : Value → Prop, K (snv v1 y) → ldN 67 (.pointer (some ⟨g10, 0, none⟩)) u.heap K := fun h K hk => by rw [hCs] at h; exact (Aq (Sep.blk (Sep.pick h [5] 6)) K).mpr hk
  have k12 : ∀ {u : World}, Sep w0 u (Cs ++ (d.L G p ++ d.As)) → ∀ K : Value → Prop, K (snv v2 y) → ldN 67 (.pointer (some ⟨g12, 0, none⟩)) u.heap K := fun h K hk => by rw [hCs] at h; exact (Aq (Sep.blk h.p3) K).mpr hk
  have k14 : ∀ {u : World}, Sep w0 u (Cs ++ (d.L G p ++ d.As)) → ∀ K : Value → Prop, K (bq nB v3) → ldN 34 (.pointer (some ⟨g14, 0, none⟩)) u.heap K := fun h K hk => by rw [hCs] at h; exact (Az (Sep.blk h.p1) K).mpr hk
  have k16 : ∀ {u : World}, Sep w0 u (Cs ++ (d.L G p ++ d.As)) → ∀ K : Value → Prop, K (bq nB v4) → ldN 34 (.pointer (some ⟨g16, 0, none⟩)) u.heap K := fun h K hk => by rw [hCs] at h; exact (Az (Sep.blk h) K).mpr hk
  have r1 : ∀ {u : World}, Sep w0 u (Cs ++ (d.L G p ++ d.As)) → Rows' Ab u.heap v1 y.l := fun h => by rw [hCs] at h; exact Sep.rows (Sep.pick h [6] 7)
  have r2 : ∀ {u : World}, Sep w0 u (Cs ++ (d.L G p ++ d.As)) → Rows' Ab u.heap v2 y.l := fun h => by rw [hCs] at h; exact Sep.rows h.p4
  have r3 : ∀ {u : World}, Sep w0 u (Cs ++ (d.L G p ++ d.As)) → RdB u.heap v3 nB.d := fun h => by rw [hCs] at h; exact Sep.rd h.p2
  have rCC : ∀ {u : World} {Xs : List Asn}, Sep w0 u (Xs ++ (Cs ++ (d.L G p ++ d.As))) → TrR u.heap g' gm' ov' d.t d.N c' := fun h => by
    have h := Sep.dropL h
    rw [hCs] at h
    exact rC (Xs := [_, _, _, _, _, _, _, _]) h
  have rBs : ∀ {u : World}, Sep w0 u (Cs ++ (d.L G p ++ d.As)) → Sep w0 u (Bs ++ (d.L G p ++ d.As)) := fun h => by
    rw [hCs] at h
    exact Sep.dropL (As := [_, _, _, _, _, _, _, _]) h
  clear hCs
  have hgM : ∀ q, hgt d.t d.M q ≤ 1000000 := fun q => Nat.le_trans (M6 H.tpM.tm q) (by omega)
  have hgN : ∀ q, hgt d.t d.N q ≤ 1000000 := fun q => Nat.le_trans (M6 H.tp.tm q) (by omega)
  refine drH_S hz22 fun z23 hz23 _ => ?_
  refine ⟨snv v1 y, fun u hu => k10 hu _ rfl, ?_⟩
  refine ⟨snv v2 y, fun u hu => k12 hu _ rfl, ?_⟩
  refine B2 (cal_i (AaA (x := y) (y := y) (r1 hz23) (r2 hz23) (by omega) (by omega)) ?_)
  rintro _ z24 ⟨rfl, hf24⟩
  have hz24 := hz23.old hf24
  rw [AbU]
  refine ⟨fun u => Sep w0 u _, hz24, ?_⟩
  simp only [fx, Nat.reduceAdd, forall_const, Bool.not_true, bne_self_eq_false]
  refine Bi ?_
  refine ⟨bq nB v3, fun u hu => k14 hu _ rfl, ?_⟩
  refine ⟨bq nB v4, fun u hu => k16 hu _ rfl, ?_⟩
  refine efS_i (cal_i (Ab9 (a := nB) (b := nB) (r3 hz24) (hr4 hz24)) ?_)
  rintro _ z25 ⟨rfl, hf25⟩
  have hz25 := hz24.old hf25
  refine ⟨hz25, ?_⟩
  simp only [fx, Nat.reduceAdd, forall_const, decide_true, Bool.not_true, bne_self_eq_false]
  refine Bi ?_
  refine AG (v := ptr G.g) (fun u hu K hk => rt hu K hk) ?_
  refine ⟨kv b, fun u hu => k9 hu _ rfl, ?_⟩
  refine AG (v := ptr G.gd) (fun u hu K hk => rr hu K hk) ?_
  try simp only [fx, Nat.reduceAdd, forall_const]
  refine AG (v := ptr G.gr) (fun u hu K hk => rT hu K hk) ?_
  refine ⟨kv b, fun u hu => k9 hu _ rfl, ?_⟩
  refine efS_i (cal_i (AdS (Hm hz25).to b) ?_)
  rintro _ z26 ⟨rfl, hf26⟩
  have hz26 := hz25.old hf26
  refine ⟨hz26, ?_⟩
  refine efS_i (cal_i (Gg (Hm hz26).dor.rf hMl2 b) ?_)
  rintro _ z27 ⟨rfl, hf27⟩
  have hz27 := hz26.old hf27
  refine ⟨hz27, ?_⟩
  refine ⟨.bool (has d.t d.N b != has d.t d.M b), fun u hu => (Gp _ _ MM _).mpr rfl, ?_⟩
  rw [Dx H.kb]
  simp only [fx, Nat.reduceAdd, forall_const, bne_self_eq_false]
  refine Bi ?_
  refine AG (v := ptr G.g) (fun u hu K hk => rt hu K hk) ?_
  refine ⟨kv b, fun u hu => k9 hu _ rfl, ?_⟩
  refine AG (v := ptr G.gd) (fun u hu K hk => rr hu K hk) ?_
  refine ⟨kv b, fun u hu => k9 hu _ rfl, ?_⟩
  refine efS_i (cal_i (US H.tp (Hm hz27).to b) ?_)
  rintro _ z28 ⟨q1', hq1, rfl, hf28⟩
  have hz28 := hz27.old hf28
  refine ⟨hz28, ?_⟩
  refine efS_i (cal_i (Tq H.tpM (Hm hz28).dor hIl hMl2 (by omega) b) ?_)
  rintro _ z29 ⟨q2', hq2, rfl, hf29⟩
  rw [H.eS] at hq2
  obtain rfl := hq2.one hq1
  have hz29 := hz28.old hf29
  refine ⟨hz29, ?_⟩
  refine ⟨.bool (under d.t d.N q2' b != under d.t d.M q2' b), fun u hu => (Gp _ _ MM _).mpr rfl, ?_⟩
  rw [Nj H.kb]
  simp only [fx, Nat.reduceAdd, forall_const, bne_self_eq_false]
  refine Bi ?_
  refine AG (v := ptr G.g) (fun u hu K hk => rt hu K hk) ?_
  refine ⟨kv b, fun u hu => k9 hu _ rfl, ?_⟩
  refine AG (v := ptr G.gd) (fun u hu K hk => rr hu K hk) ?_
  refine ⟨kv b, fun u hu => k9 hu _ rfl, ?_⟩
  refine efS_i (cal_i (AaK H.tp.tm (Hm hz29).to (V := V) (hvv hz29) hVl hNl b) ?_)
  rintro _ z30 ⟨rfl, hf30⟩
  have hz30 := hz29.old hf30
  refine ⟨hz30, ?_⟩
  refine efS_i (cal_i (RL H.tpM.tm (Hm hz30).dor (V := V) (hvv hz30) hVl hMl2 (by omega) b) ?_)
  rintro _ z31 ⟨rfl, hf31⟩
  have hz31 := hz30.old hf31
  refine ⟨hz31, ?_⟩
  have ecB : cntB d.t d.N V b = cntB d.t d.M V b := by
    unfold cntB
    rw [VD H.kb]
  rw [ecB]
  simp only [fx, Nat.reduceAdd, forall_const, bne_self_eq_false]
  refine Bi ?_
  refine ⟨kv b, fun u hu => k9 hu _ rfl, ?_⟩
  refine AG (v := ptr G.gd) (fun u hu K hk => rr hu K hk) ?_
  try simp only [fx, Nat.reduceAdd, forall_const]
  refine AG (v := ptr G.gr) (fun u hu K hk => rT hu K hk) ?_
  refine ⟨kv b, fun u hu => k9 hu _ rfl, ?_⟩
  refine efS_i (cal_i (Gi (rCC (Xs := []) hz31) b) ?_)
  rintro _ z32 ⟨rfl, hf32⟩
  have hz32 := hz31.old hf32
  refine ⟨hz32, ?_⟩
  refine efS_i (cal_i (Gg (Hm hz32).dor.rf hMl2 b) ?_)
  rintro _ z33 ⟨rfl, hf33⟩
  have hz33 := hz32.old hf33
  refine ⟨hz33, ?_⟩
  refine ⟨.bool (has d.t d.N b != has d.t d.M b), fun u hu => (Gp _ _ MM _).mpr rfl, ?_⟩
  rw [Dx H.kb]
  simp only [fx, Nat.reduceAdd, forall_const, bne_self_eq_false]
  refine Bi ?_
  refine ⟨kv b, fun u hu => k9 hu _ rfl, ?_⟩
  refine AG (v := ptr G.gd) (fun u hu K hk => rr hu K hk) ?_
  try simp only [fx, Nat.reduceAdd, forall_const]
  refine AG (v := ptr G.gr) (fun u hu K hk => rT hu K hk) ?_
  refine ⟨kv b, fun u hu => k9 hu _ rfl, ?_⟩
  refine efS_i (cal_i (AcY (rCC (Xs := []) hz33) H.tp.tm.w b (hgN b)) ?_)
  rintro p1 z34 hz34
  replace hz34 := hz33.join hz34
  refine ⟨Sep.tail hz34, ?_⟩
  refine efS_i (cal_i (TR (Hm (Bs := _ :: Cs) hz34).dor.rf H.tpM.tm.w hMl2 b (hgM b)) ?_)
  rintro p2 z35 hz35
  replace hz35 := hz34.join hz35
  refine ⟨Sep.tail (Sep.tail hz35), ?_⟩
  have hpl : (Bq d.t d.N b).length ≤ 1000000 := by
    unfold Bq
    split
    · rw [List.length_reverse]
      exact Nat.le_trans (OV d.t d.N (hgt d.t d.N b) b) (hgN b)
    · simp
  have hp2 : Rows' (rVec 32) z35.heap p2 (Bq d.t d.N b) := by
    rw [Afr H.kb b]
    exact Sep.rows hz35
  refine efS_i (cal_i (Em (Sep.rows hz35.p1) hp2 hpl) ?_)
  rintro _ z36 ⟨rfl, hf36⟩
  have hz36 := (Sep.tail (Sep.tail hz35)).old hf36
  refine ⟨hz36, ?_⟩
  simp only [fx, Nat.reduceAdd, forall_const, decide_true, Bool.not_true]
  rw [wi64 (by omega) (by omega)]
  exact ⟨⟨j + 1, by simp, by omega, rBs hz36⟩, by simp [RowKit.intOf]; omega⟩
end
end Go.Fx
set_option linter.unusedVariables false
set_option linter.unusedSimpArgs false
namespace Go.Fx
theorem Af4 {h : Heap} {p : Par} (hp : Rdr.ok Kv h p) : PaOk p := by
  obtain ⟨h1, h2, _⟩ := hp
  have b1 := Go.bounds_i64 h1
  have b2 := Go.bounds_i64 h2
  exact ⟨b1.1, b1.2, b2.1, b2.2⟩
section
variable {w : World}
set_option maxHeartbeats 1000000 in
theorem Afw {q : Par × Vec 32 × Int × Int} {s : Sl (Bool × Nat × Sl UInt8 × Sl (Nat × Int))} (hc : Cub w) (hq0 : Rdr.ok Ef w.heap q) (hs0 : (rSl DT).ok w.heap s) :
    cal P KP [.agg (Rdr.cells AQ q).toArray, s.v] w fun r w' => r = .bool true ∧ Fr [] w w' := by
  have hpo : PaOk q.1 := Af4 hq0.1
  obtain ⟨l, hr, hcap, hl63, hok⟩ := AeH hs0
  generalize s.v = v at *
  clear hs0 hq0
  refine Tg fun R hR => ?_
  unfold Kl
  refine bxQ (Sep.start w) fun g2 w0 hs0 => ?_
  have lv : ∀ {z : World}, Fr [] w z → cal P F9 [] z R := fun {z} hf => cal_i (RI (hc.fr hf)) fun r w' hr => hR _ _ ⟨hr.1, hf.trans hr.2 (by simp) (by simp)⟩
  refine cal_i (RI (hc.fr hs0.fr0)) ?_
  rintro _ w1 ⟨rfl, hf1⟩
  have hs1 := hs0.old hf1
  simp only [fx, Nat.reduceAdd, forall_const]
  refine Bi ?_
  simp only [B6 (Sep.blk hs1), BS (Sep.blk hs1), BM (Sep.blk hs1), Bk (Sep.blk hs1), Bm (Sep.blk hs1), By (Sep.blk hs1), BG (Sep.blk hs1), Bz (Sep.blk hs1), BH (Sep.blk hs1)]
  refine cal_i (AbW (hr.fr hs1.fr0) hcap hl63 hok) ?_
  rintro _ w2 ⟨hf2, b, rfl, hb⟩
  have hs2 := hs1.old hf2
  cases b with
  | false => simp only [fx, Nat.reduceAdd, forall_const]; exact lv hs2.fr0
  | true =>
  obtain ⟨hl, hsm⟩ := hb rfl
  simp only [fx, Nat.reduceAdd, forall_const, B6 (Sep.blk hs2), BS (Sep.blk hs2), BM (Sep.blk hs2), Bk (Sep.blk hs2), Bm (Sep.blk hs2), By (Sep.blk hs2), BG (Sep.blk hs2), Bz (Sep.blk hs2), BH (Sep.blk hs2)]
  have hC : Cub w2 := hc.fr hs2.fr0
  have hrw : ARows w2.heap v l := hr.fr hs2.fr0
  have hout : ∀ {z : World}, Fr [] w2 z → R (.bool true) z := fun hf => hR _ _ ⟨rfl, hs2.fr0.trans hf (by simp) (by simp)⟩
  refine cal_i (Ach hpo) ?_
  rintro _ w3 (⟨rfl, hf3⟩ | ⟨G, d0, rfl, hA0, H0⟩)
  · simp only [fx, Nat.reduceAdd, forall_const, Option.isNone_none]
    exact hout hf3
  simp only [fx, Nat.reduceAdd, forall_const, Option.isNone_some, hr.len]
  refine ⟨fun a z => ∃ i : Nat, a = .int .i64 i ∧ i ≤ l.length ∧ ∃ d, BwI w2 G q.1 i d z, fun a _ => (l.length - RowKit.intOf a).toNat, ⟨0, rfl, by omega, _, H0⟩, ?_⟩
  clear H0 hA0
  rintro _ z ⟨i, rfl, hi, d, H⟩ -
  have Hf := H.sep.fr0
  simp only [fx, Nat.reduceAdd, forall_const]
  rw [Ai]
  refine ⟨fun h => ?_, fun h => hout Hf⟩
  have hlt : i < l.length := by simp at h; omega
  obtain ⟨a, ha⟩ : ∃ a, l[i]? = some a := ⟨_, List.getElem?_eq_getElem hlt⟩
  have ham := List.mem_of_getElem? ha
  have hak := hok a ham
  have ha' : (l.map AC.t)[i]? = some a.t := by rw [List.getElem?_map, ha]; rfl
  have had : ARd w2.heap a := hrw.d a ham
  have hafs : a.fs.length ≤ 1000 := by have := (hsm a ham).2; omega
  have hadl : a.d.length ≤ 1000 := (hsm a ham).1
  change ixs 4 _ _ _
  refine Rows'.ldN (q := AK) (by decide) (hrw.rw.fr Hf) ha' .i64 ?_
  refine Ax H.sep (Jp z) fun g8 z1 hz1 => ?_
  refine I3 (b := a.t) hz1 (HX had.d.one had.f.one1) fun z2 hz2 => ?_
  refine drH_S hz2 fun z3 hz3 _ => ?_
  refine ⟨acV a, fun u hu => (B9 (Sep.blk hu) _).mpr rfl, ?_⟩
  have H3 := H.more (Bs := [_]) hz3
  refine B2 (cal_i (AbO H3 hC had hak hafs hadl (by omega)) ?_)
  rintro _ z4 ⟨rfl, d', E, hE, H'⟩
  have hE : d'.As = E ++ (blk g8 (Rdr.cells AK a.t).toArray Ba :: d.As) := hE
  have r8 : ∀ {u : World}, Sep w2 u (d'.L G q.1 ++ d'.As) → u.heap[g8]? = some (.cells (Rdr.cells AK a.t).toArray Ba (0, 0)) := fun h => Sep.memB (Sep.dropL (As := d'.L G q.1) h) (by rw [hE]; exact List.mem_append_right _ (List.mem_cons_self ..))
  refine ⟨fun u => Sep w2 u (d'.L G q.1 ++ d'.As), H'.sep, ?_⟩
  simp only [fx, Nat.reduceAdd, forall_const, Bool.not_true]
  refine Bi ?_
  rw [KE _ _ _ _ (by decide)]
  simp only [fx, Nat.reduceAdd, forall_const]
  obtain ⟨c45, hc45⟩ : ∃ c : Bool, c = ((i : Int).tmod 4 == 3) := ⟨_, rfl⟩
  rw [← hc45]
  obtain ⟨c50, hc50⟩ : ∃ c : Bool, c = ((i : Int) == IntKind.i64.wrap ((l.length : Int) - 1)) := ⟨_, rfl⟩
  try simp only [← hc50]
  have hidl : d'.ids.length ≤ 1000000 := by have := H'.hn; omega
  refine Yu (c45 || c50) (fun u => Sep w2 u (d'.L G q.1 ++ d'.As)) (fun hq => ⟨by rw [hq]; rfl, H'.sep⟩) (fun hq => ⟨by rw [hq]; rfl, H'.sep⟩) fun y z5 hy hz5 _ => ?_
  refine Bi ?_
  rw [hy]
  intro _
  refine Ie false (fun u => Sep w2 u (d'.L G q.1 ++ d'.As)) (fun hq => ?_) (fun hq => ⟨rfl, hz5⟩) fun y2 z6 hy2 hz6 _ => ?_
  · refine ⟨acV a, fun u hu => (B9 (r8 hu) _).mpr rfl, ?_⟩
    refine efS_i (cal_i (RO (H'.at hz5).nm H'.h0 hidl (had.fr hz5.fr0) hak hafs) ?_)
    rintro vv z7 hz7
    replace hz7 := hz5.join hz7
    refine ⟨hz7.tail, ?_⟩
    have H7 := H'.more (Bs := [_]) hz7
    have hVl : (Ed d'.ids a.fs []).length ≤ 1000000 := by
      have hq := Nc d'.ids a.fs []
      simp only [List.length_nil] at hq
      omega
    refine efS_i (cal_i (YR H7 (fun u hu => Sep.rows hu) hVl (by omega)) ?_)
    rintro _ z8 ⟨rfl, H8⟩
    have hz8 : Sep w2 z8 (d'.L G q.1 ++ d'.As) := Sep.pick H8.sep [0, 1, 2, 3, 4, 5, 6, 7, 8, 9, 10, 11] 13
    refine ⟨hz8, ?_⟩
    simp only [fx, Nat.reduceAdd, forall_const, Bool.not_true]
    exact ⟨by first | rfl | trivial, hz8⟩
  refine Bi ?_
  rw [hy2]
  intro _
  simp only [fx, Nat.reduceAdd, forall_const]
  rw [wi64 (by omega) (by omega)]
  exact ⟨⟨i + 1, by simp, by omega, d', H'.at hz6⟩, by simp [RowKit.intOf]; omega⟩
end
end Go.Fx
namespace Go.Fx
end Go.Fx
namespace Go.Proofs.YtpdnddcodnpmeaaGreatDoor
open Go.ChangeShapes Go.WideShapes Go.ChangeAt Go.RowKit
theorem own : ownKnob Tryz.prog.godebug = none := by kernel_rfl
theorem AbF : laidOutB Tryz.prog = true := by kernel_rfl
end Go.Proofs.YtpdnddcodnpmeaaGreatDoor
namespace Go.Proofs.YtpdnddcodnpmeaaGreatDoor
open Go.ChangeShapes Go.WideShapes Go.ChangeAt Go.RowKit
abbrev laidL : List (String × DataW Unit) := [("flurry/sha.cubes", Rows.laid_flurry_sha_cubes)]
theorem Af5 : Tryz.prog.globalNamed "flurry/sha.cubes" = some 0 := by kernel_rfl
theorem Af2 : (Tryz.prog.globals[0]?).map (·.type) = some Go.Fx.Bc := by kernel_rfl
theorem Aet (os : Os) (args : Array Value) : laidMetH Tryz.prog laidL ((World.doorLaid Tryz.prog 400 os).forCall (fun _ _ => 0) ⟨#[], args, []⟩).memory :=
  laidMetH_of_parts3 (fuel := 8) (laidMet_of_run' 8 (by kernel_rfl) (by kernel_rfl)) (by kernel_rfl) (by kernel_rfl)
theorem Aan {W : World} (h : laidMetH Tryz.prog laidL W) : Go.Fx.Cub W := by
  rw [MakeChecks.laidMetH_plain _ _ _ (by kernel_rfl)] at h
  obtain ⟨ps, ⟨g0, t0, cs0, f0, p0, q0, hg0, ht0, hv0, hd0, _, _⟩, _, _⟩ := h
  obtain rfl := Option.some.inj (Af5.symm.trans hg0)
  obtain rfl := Option.some.inj (Af2.symm.trans ht0)
  have hcs : cs0.toList = Go.Fx.wvs Go.Fx.GV := by
    obtain ⟨xs, m1, _, hx1, hlen, hn3, hel⟩ := DataW.trod_array Go.Fx.Yj hd0
    have c1 : Tryz.prog.cellsOf Go.Fx.SW = 1 := by kernel_rfl
    have c64 : Tryz.prog.cellsOf Go.Fx.Bc = 64 := by kernel_rfl
    rw [c64] at hlen
    rw [c1] at hel
    have hd : (Rows.laid_flurry_sha_cubes : DataW Unit) = .agg (Go.Fx.GV.map fun x => .lit (.int .u32 x.toNat)) := by kernel_rfl
    rw [hd] at hx1
    simp only [Prod.mk.injEq, DataW.agg.injEq] at hx1
    apply List.ext_getElem?
    intro i
    by_cases hi : i < 64
    · have h1 := hel i hi
      have hx : xs[i]? = some (xs[i]'(by omega)) := List.getElem?_eq_getElem _
      rw [hx] at h1
      generalize xs[i]'(by omega) = y at *
      obtain ⟨k, e1, e2, _⟩ := DataW.trod_int Go.Fx.AeR h1
      have h2 := congrArg (·[i]?) hx1.1
      simp only [List.getElem?_map, hx, e2, Option.map_some] at h2
      have h3 : cs0.toList[i]? = some (.int .u32 k) := by
        have : ((cs0.toList.drop (i * 1)).take 1)[0]? = some (.int .u32 k) := by rw [e1]; rfl
        rw [List.getElem?_take_of_lt (by omega), List.getElem?_drop, Nat.mul_one, Nat.add_zero] at this
        exact this
      rw [h3, Go.Fx.wvs, List.getElem?_map]
      cases hc : Go.Fx.GV[i]? with
      | none => rw [hc] at h2; cases h2
      | some z =>
        rw [hc] at h2
        simp only [Option.map_some, Option.some.injEq, DataW.lit.injEq, Lit.int.injEq, true_and] at h2
        rw [Option.map_some, ← h2]
        rfl
    · rw [List.getElem?_eq_none (by omega), List.getElem?_eq_none (by rw [Go.Fx.wvs, List.length_map]; show 64 ≤ i; omega)]
  have hv1 := hv0
  unfold World.var? at hv1
  rw [hg0] at hv1
  simp only [Option.bind_some] at hv1
  cases hh : W.heap[0]? with
  | none => rw [hh] at hv1; cases hv1
  | some o =>
    rw [hh] at hv1
    cases o with
    | cells cs t fr =>
      simp only [Option.some.injEq] at hv1
      subst hv1
      refine ⟨t, fr, ?_⟩
      rw [hh]
      have : cs = (Go.Fx.wvs Go.Fx.GV).toArray := by apply Array.ext'; simpa using hcs
      rw [this]
    | _ => cases hv1
end Go.Proofs.YtpdnddcodnpmeaaGreatDoor
set_option linter.unusedVariables false
set_option linter.unusedSimpArgs false
namespace Go.Proofs.YtpdnddcodnpmeaaGreatDoor
open Go.ChangeShapes Go.WideShapes Go.ChangeAt Go.RowKit
set_option maxRecDepth 100000 in
theorem VH (os : Os) (started : os.Started) (H : Type) (enc : TypeId × Value → H) :
    ReturnsInHanded {} Tryz.checked os 6 .any (fun w args => (Rows.topoDoesSpec.pre enc Tryz.prog Tryz.f6 [] false w args ∧ laidMetH Tryz.prog laidL w) ∧ sizedMet enc Tryz.prog Tryz.f6 (OpenSpec.ofChange Rows.topoDoesSpec) false w args) (Rows.topoDoesSpec.post enc Tryz.prog Tryz.f6 false true false false) := by
  refine returnsInHanded_of_change_and (C := Tryz.checked) (X := fun w _ => laidMetH Tryz.prog laidL w) (fun _ _ _ hh h => h.of_heap hh) own started (by kernel_rfl) Tryz.func6
    (ChangeSpec.witness_shaped (enc := enc) (C := Tryz.checked) (os := os) (X := fun w _ => laidMetH Tryz.prog laidL w) false (World.doorLaid Tryz.prog 400 os) #[((Value.agg ((List.replicate 4 (Value.int IntKind.i64 0) ++ List.replicate 32 (Value.int IntKind.u8 0) ++ List.replicate 2 (Value.int IntKind.i64 0) : List Value).toArray))), .slice none 0 0] 8 rfl (World.shaped_of_RefB (by kernel_rfl) (by kernel_rfl)) (by kernel_rfl) (by kernel_rfl) (by kernel_rfl) (Aet os _)) ?_
  intro W base args ds gs before hval0 hW _ _ hL _
  have hcub : Go.Fx.Cub W := Aan hL
  have hval : ∀ (j : Nat) t v, Tryz.f6.params[j]? = some t → args[j]? = some v → Value.okWide Tryz.prog W .any base t v := hval0
  have hW' := hW
  obtain ⟨p, q, hA0, hV, rfl, hfz, hnd⟩ := hW
  have hA : DataW.TrodAll enc Tryz.prog W 0 (fun _ => true) true Tryz.f6.params.toList args.toList ds p := hA0
  rw [Tryz.params6] at hA hval
  obtain ⟨v0, vs0, d0, ds0, p0, q0, hargs, rfl, rfl, h0, r0⟩ := trodAll_cons hA
  obtain ⟨v1, vs1, d1, ds1, p1, q1, rfl, rfl, rfl, h1, r1⟩ := trodAll_cons r0
  obtain ⟨rfl, rfl, rfl⟩ := trodAll_nil r1
  obtain rfl : args = #[v0, v1] := by cases args; simp_all
  obtain ⟨rfl, rfl⟩ := trodVars_none hV
  obtain ⟨cs0, rfl, sz0⟩ := okWide_struct Tryz.underlying27 (hval 0 27 v0 rfl rfl)
  have k0 := h0
  have lt0 : ∀ x ∈ p0, x.block < W.heap.size := by obtain ⟨m, hm⟩ := k0; exact DataW.trod_lt m _ _ _ hm
  obtain ⟨f0, hf0⟩ := h0
  have hx0 := Go.Fx.Ox hf0
  obtain ⟨x0, rfl, rd0⟩ := hx0
  obtain ⟨a1, len1, cap1, rfl⟩ := okWide_slice Tryz.underlying28 (hval 1 28 v1 rfl rfl)
  have k1 := h1
  have lt1 : ∀ x ∈ p1, x.block < W.heap.size := by obtain ⟨m, hm⟩ := k1; exact DataW.trod_lt m _ _ _ hm
  obtain ⟨f1, hf1⟩ := h1
  have hx1 := Go.Fx.MR hf1
  obtain ⟨l1, rd1⟩ := hx1
  clear hA0 hval0
  have hcal := Go.Fx.Afw (q := x0) hcub rd0 rd1
  refine Calls.mono hcal fun e W' ⟨v, he, hv, hf⟩ => ?_
  subst hv
  subst he
  have bel : Below W.heap.size W W' := hf.below (by simp)
  exact ⟨_, rfl, _, _, _, [], _, [], hW', trodAll_mk1 (shut_bool Tryz.underlying4 _), (trodAll_cons_mk (Below.trod AbF (by kernel_rfl) (of_decide_eq_true (by kernel_rfl)) k0 bel lt0) (trodAll_cons_mk (Below.trod AbF (by kernel_rfl) (of_decide_eq_true (by kernel_rfl)) k1 bel lt1) trodAll_mk0)), rfl, bel.frame _, fun h => by cases h⟩
theorem AeK : Rows.TopoDoesSaid :=
  OpenClaim.holds_of_wide 6 Tryz.f6 rfl rfl rfl rfl rfl rfl rfl ⟨rfl, rfl, rfl, rfl, rfl⟩ rfl rfl rfl rfl rfl (by kernel_rfl) Tryz.func6 (by kernel_rfl)
    (of_decide_eq_true (by kernel_rfl)) (by unfold Func.isWrapper; first | (rw [if_pos (by decide +kernel)]; kernel_rfl) | (rw [if_neg (by decide +kernel)]; exact ⟨rfl, rfl⟩))
    (fun os started H enc _ => VH os started H enc)
theorem topoDoesCard : Rows.TopoDoesCardSaid :=
  Claim7.holds_tied_plain_at .later [] [.data] true (true, "31b91c773755166b2259662efe0290c201ce4ed0645ef922d45d50ed6dd0d4b1") false
    AeK (fun _ h => by cases h) (by kernel_rfl) (fun _ h => by cases h) topoDoes_row_tie rfl ⟨rfl, rfl⟩ (by kernel_rfl) rfl
    (fun f fn hf hfn => by
      obtain rfl : f = 6 := Option.some.inj ((show Tryz.prog.funcNamed "flurry/flurrylaw19.TopoDoes" = some 6 by kernel_rfl).symm.trans hf) |>.symm
      obtain rfl : fn = Tryz.f6 := (Option.some.inj (Tryz.func6.symm.trans hfn)).symm
      exact ⟨by kernel_rfl, fun j t ht => by
        rw [Tryz.params6] at ht
        have hm : t ∈ [27, 28] := by simpa using Array.mem_of_getElem? ht
        have hall : ([27, 28].all fun u => !Tryz.prog.wantsStandIn u) = true := by kernel_rfl
        exact (show Tryz.prog.wantsStandIn t = false by simpa using List.all_eq_true.1 hall t hm)⟩)
    (by kernel_rfl)
#print axioms topoDoesCard
end Go.Proofs.YtpdnddcodnpmeaaGreatDoor
