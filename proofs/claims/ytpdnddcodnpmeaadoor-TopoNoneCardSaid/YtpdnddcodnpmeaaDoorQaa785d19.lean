/-
  What is proved: for all arguments the law TopoNone returns true, and its arguments read as they did. Conditions: none.
-/
import Derived.Test.YtpdnddcodnpmeaaDoorRows
import Derived.WalkKit
import Derived.ProofKit
import Derived.OpenShut
import Derived.ChangeOld
import Derived.Below
import Derived.Carry
import Derived.Test.YtpdnddcodnpmeaaDoorCards
import Derived.Test.YtpdnddcodnpmeaaDoorTie
import Derived.LaidMore
import Derived.Stop.Joined
import Derived.Test.YtpdnddcodnpmeaaDoorQfea3a3bb
import Derived.Test.YtpdnddcodnpmeaaDoorQdc0ec371
import Derived.Test.YtpdnddcodnpmeaaDoorQ3a432b15
import Derived.Test.YtpdnddcodnpmeaaDoorQf27925b2
set_option linter.unusedVariables false
set_option linter.unusedSimpArgs false
namespace Go.Fx
/-- A Topo that no call made. -/
def NTo (p : Value) (w : World) : Prop := p.oneCell' = true ∧ ∀ z, Fr [] w z → cal P f_topo_Topo_none [p] z fun r w' => r = .bool true ∧ z = w'
section
variable {w0 w w' : World} {As : List Asn} {p : Value}
theorem NTo.fr (h : NTo p w) (hf : Fr [] w w') : NTo p w' := ⟨h.1, fun z hz => h.2 z (hf.trans hz (by simp) (by simp))⟩
theorem NTo.nil (w : World) : NTo (.pointer none) w := ⟨rfl, fun z _ => by
  refine s_topo_Topo_none fun R hR => ?_
  unfold c_topo_Topo_none
  simp only [fx, Nat.reduceAdd, forall_const, Option.isNone_none]
  exact hR _ _ ⟨rfl, rfl⟩⟩
theorem NTo.zero {g : Nat} {a : Par} {b : Value} (hs : Sep w0 w (blk g (Rdr.cells Q_topo_Topo (.pointer none, a, b)).toArray T_topo_Topo :: As)) : NTo (.pointer (some ⟨g, 0, none⟩)) w := ⟨rfl, fun z hz => by
  refine s_topo_Topo_none fun R hR => ?_
  unfold c_topo_Topo_none
  simp only [fx, Nat.reduceAdd, forall_const, Option.isNone_some]
  refine jn1_dup ?_
  refine (L_topo_Topo__inner (Sep.blk (hs.old hz)) _).mpr ?_
  simp only [fx, Nat.reduceAdd, forall_const, Option.isNone_none]
  exact hR _ _ ⟨rfl, rfl⟩⟩
variable (hp : NTo p w)
include hp
theorem pAdd (b : Blk) (v : Value) : cal P f_topo_Topo_Add [p, bq b v] w fun r w' => r = .tuple #[kv (vz 32), .int .i64 2] ∧ Fr [] w w' := by
  refine s_topo_Topo_Add fun R hR => ?_
  unfold c_topo_Topo_Add
  refine bxQ (Sep.start w) fun g3 w1 hs1 => ?_
  refine alloc_s hs1 (A_api_ID w1) fun g4 w2 hs2 => ?_
  refine cal_i (hp.2 _ hs2.fr0) ?_
  rintro _ _ ⟨rfl, rfl⟩
  simp only [fx, Nat.reduceAdd, forall_const]
  rw [B_ID0]
  refine St_api_ID hs2 fun w3 hs3 => ?_
  simp only [L_api_ID hs3.blk]
  exact hR _ _ ⟨rfl, hs3.fr0⟩
theorem pPoll (v : Value) : cal P f_topo_Topo_Poll [p, v] w fun r w' => r = .tuple #[.slice none 0 0, .slice none 0 0, .int .i64 2] ∧ Fr [] w w' := by
  refine s_topo_Topo_Poll fun R hR => ?_
  unfold c_topo_Topo_Poll
  refine cal_i (hp.2 _ (Fr.refl _ _)) ?_
  rintro _ _ ⟨rfl, rfl⟩
  simp only [fx, Nat.reduceAdd, forall_const]
  exact hR _ _ ⟨rfl, Fr.refl _ _⟩
theorem pSnow (k : Vec 32) : cal P f_topo_Topo_Snow [p, kv k] w fun r w' => r = .tuple #[snv (.slice none 0 0) snZ, .int .i64 2] ∧ Fr [] w w' := by
  refine s_topo_Topo_Snow fun R hR => ?_
  unfold c_topo_Topo_Snow
  refine bxQ (Sep.start w) fun g3 w1 hs1 => ?_
  refine alloc_s hs1 (A_api_Snow w1) fun g4 w2 hs2 => ?_
  refine cal_i (hp.2 _ hs2.fr0) ?_
  rintro _ _ ⟨rfl, rfl⟩
  simp only [fx, Nat.reduceAdd, forall_const]
  rw [B_api_Snow]
  refine St_api_Snow hs2 (one_api_Snow rfl) fun w3 hs3 => ?_
  simp only [L_api_Snow hs3.blk, L_api_Snow__List hs3.blk, L_api_Snow__Pref hs3.blk, L_api_Snow__Flake hs3.blk, L_api_Snow__Conf hs3.blk, L_api_Snow__Done hs3.blk]
  exact hR _ _ ⟨rfl, hs3.fr0⟩
theorem pGet (k : Vec 32) : cal P f_topo_Topo_Get [p, kv k] w fun r w' => r = .tuple #[bq Blk.none (.slice none 0 0), .int .i64 2] ∧ Fr [] w w' := by
  refine s_topo_Topo_Get fun R hR => ?_
  unfold c_topo_Topo_Get
  refine bxQ (Sep.start w) fun g3 w1 hs1 => ?_
  refine alloc_s hs1 (A_api_Block w1) fun g4 w2 hs2 => ?_
  refine cal_i (hp.2 _ hs2.fr0) ?_
  rintro _ _ ⟨rfl, rfl⟩
  simp only [fx, Nat.reduceAdd, forall_const]
  rw [B_api_Block]
  refine St_api_Block hs2 (one_api_Block rfl) fun w3 hs3 => ?_
  simp only [L_api_Block hs3.blk, L_api_Block__Parent hs3.blk, L_api_Block__Height hs3.blk, L_api_Block__Data hs3.blk]
  exact hR _ _ ⟨rfl, hs3.fr0⟩
theorem pRoot : cal P f_topo_Topo_Root [p] w fun r w' => r = .tuple #[kv (vz 32), .int .i64 0] ∧ Fr [] w w' := by
  refine s_topo_Topo_Root fun R hR => ?_
  unfold c_topo_Topo_Root
  refine alloc_s (Sep.start w) (A_api_ID w) fun g4 w2 hs2 => ?_
  refine cal_i (hp.2 _ hs2.fr0) ?_
  rintro _ _ ⟨rfl, rfl⟩
  simp only [fx, Nat.reduceAdd, forall_const]
  rw [B_ID0]
  refine St_api_ID hs2 fun w3 hs3 => ?_
  simp only [L_api_ID hs3.blk]
  exact hR _ _ ⟨rfl, hs3.fr0⟩
theorem pCount (v : Value) (k : Vec 32) : cal P f_topo_Topo_Count [p, v, kv k] w fun r w' => r = .int .i64 0 ∧ Fr [] w w' := by
  refine s_topo_Topo_Count fun R hR => ?_
  unfold c_topo_Topo_Count
  refine bxQ (Sep.start w) fun g3 w1 hs1 => ?_
  refine cal_i (hp.2 _ hs1.fr0) ?_
  rintro _ _ ⟨rfl, rfl⟩
  simp only [fx, Nat.reduceAdd, forall_const]
  exact hR _ _ ⟨rfl, hs1.fr0⟩
theorem pPref : cal P f_topo_Topo_Preference [p] w fun r w' => r = kv (vz 32) ∧ Fr [] w w' := by
  refine s_topo_Topo_Preference fun R hR => ?_
  unfold c_topo_Topo_Preference
  refine alloc_s (Sep.start w) (A_api_ID w) fun g4 w2 hs2 => ?_
  refine cal_i (hp.2 _ hs2.fr0) ?_
  rintro _ _ ⟨rfl, rfl⟩
  simp only [fx, Nat.reduceAdd, forall_const]
  rw [B_ID0]
  refine St_api_ID hs2 fun w3 hs3 => ?_
  simp only [L_api_ID hs3.blk]
  exact hR _ _ ⟨rfl, hs3.fr0⟩
theorem pPreferred (k : Vec 32) : cal P f_topo_Topo_Preferred [p, kv k] w fun r w' => r = .bool false ∧ Fr [] w w' := by
  refine s_topo_Topo_Preferred fun R hR => ?_
  unfold c_topo_Topo_Preferred
  refine bxQ (Sep.start w) fun g3 w1 hs1 => ?_
  refine drH_S hs1 fun w2 hs2 _ => ?_
  refine efC_cut (cal_i (hp.2 _ hs2.fr0) ?_)
  rintro _ _ ⟨rfl, rfl⟩
  refine ⟨fun u => Sep w u _, hs2, ?_⟩
  simp only [fx, Nat.reduceAdd, forall_const, Bool.not_true]
  exact hR _ _ ⟨rfl, hs2.fr0⟩
theorem pTree : cal P f_topo_Topo_Tree [p] w fun r w' => r = .pointer none ∧ Fr [] w w' := by
  refine s_topo_Topo_Tree fun R hR => ?_
  unfold c_topo_Topo_Tree
  refine cal_i (hp.2 _ (Fr.refl _ _)) ?_
  rintro _ _ ⟨rfl, rfl⟩
  simp only [fx, Nat.reduceAdd, forall_const]
  exact hR _ _ ⟨rfl, Fr.refl _ _⟩
theorem pHas (k : Vec 32) : cal P f_topo_Topo_Has [p, kv k] w fun r w' => r = .bool false ∧ Fr [] w w' := by
  refine s_topo_Topo_Has fun R hR => ?_
  unfold c_topo_Topo_Has
  refine bxQ (Sep.start w) fun g3 w1 hs1 => ?_
  refine drH_S hs1 fun w2 hs2 _ => ?_
  refine efC_cut (cal_i (hp.2 _ hs2.fr0) ?_)
  rintro _ _ ⟨rfl, rfl⟩
  refine ⟨fun u => Sep w u _, hs2, ?_⟩
  simp only [fx, Nat.reduceAdd, forall_const, Bool.not_true]
  exact hR _ _ ⟨rfl, hs2.fr0⟩
theorem pLen : cal P f_topo_Topo_Len [p] w fun r w' => r = .int .i64 0 ∧ Fr [] w w' := by
  refine s_topo_Topo_Len fun R hR => ?_
  unfold c_topo_Topo_Len
  refine cal_i (hp.2 _ (Fr.refl _ _)) ?_
  rintro _ _ ⟨rfl, rfl⟩
  simp only [fx, Nat.reduceAdd, forall_const]
  exact hR _ _ ⟨rfl, Fr.refl _ _⟩
theorem pClone : cal P f_topo_Topo_Clone [p] w fun r w' => r = .pointer none ∧ Fr [] w w' := by
  refine s_topo_Topo_Clone fun R hR => ?_
  unfold c_topo_Topo_Clone
  refine cal_i (hp.2 _ (Fr.refl _ _)) ?_
  rintro _ _ ⟨rfl, rfl⟩
  simp only [fx, Nat.reduceAdd, forall_const]
  exact hR _ _ ⟨rfl, Fr.refl _ _⟩
end
theorem Rows'.ldV {w : World} {v : Value} {l : List Value} {j : Nat} {a : Value} (hr : Rows' qv w.heap v l) (hj : l[j]? = some a) (k : IntKind) {K : Value → Prop} (h : K a) : ixs 1 v (.int k (j : Int)) fun t => Go.Fx.ld1 t w.heap K := by
  obtain ⟨g, o, c, rfl⟩ := hr.form (by decide) hj
  have hlt := (List.getElem?_eq_some_iff.1 hj).1
  rw [ixs_mk _ _ _ _ _ _ _ _ (by omega) (by omega), Int.toNat_natCast]
  have hat := At.of (q := qv) (by decide) hr hj
  exact (Fld.ld1A (r := qv) Fld.self hat K).mpr h
theorem rowsNil0 {α : Type} (q : Rdr α) (h : Heap) : Rows' q h (.slice none 0 0) [] := ⟨none, 0, rfl, by simp, .inl (by simp)⟩
section
variable {w : World}
set_option maxHeartbeats 1000000 in
theorem wNone19 {x : Vec 32 × Int × Sl UInt8} {id : Vec 32} {s : Sl (Vec 32 × Int)} (hc : Cub w) (hx : Rdr.ok R_api_Block w.heap x) (hv : (rSl R_api_Vote).ok w.heap s) : cal P f_law19_TopoNone [.agg (Rdr.cells R_api_Block x).toArray, kv id, s.v] w fun r w' => r = .bool true ∧ Fr [] w w' := by
  obtain ⟨b, hbb⟩ : ∃ a, a = ab x := ⟨_, rfl⟩
  have hb := ab_rd hx
  rw [← hbb] at hb
  have ea : Value.agg (Rdr.cells R_api_Block x).toArray = bq b x.2.2.v := by rw [hbb]; rfl
  rw [ea]
  generalize x.2.2.v = v at *
  clear ea hbb hx
  have hvl : ∀ K, lenS s.v K = K (.int .i64 s.l.length) := fun K => rSl_len hv K
  refine s_law19_TopoNone fun R hR => ?_
  unfold c_law19_TopoNone
  refine bxQ (Sep.start w) fun g2 w1 hs1 => ?_
  refine bxQ hs1 fun g3 w2 hs2 => ?_
  have lv : ∀ {z : World}, Fr [] w z → cal P f_law19_live [] z R := fun {z} hf => cal_i (live19_spec (hc.fr hf)) fun r w' hr => hR _ _ ⟨hr.1, hf.trans hr.2 (by simp) (by simp)⟩
  refine cal_i (live19_spec (hc.fr hs2.fr0)) ?_
  rintro _ w3 ⟨rfl, hf3⟩
  have hs3 := hs2.old hf3
  have l1 : ∀ K, lenS (b.p, b.h, v).2.2 K = K (.int .i64 b.d.length) := hb.len
  simp only [fx, Nat.reduceAdd, forall_const, L_api_Block (Sep.p1 hs3).blk, L_api_Block__Parent (Sep.p1 hs3).blk, L_api_Block__Height (Sep.p1 hs3).blk, L_api_Block__Data (Sep.p1 hs3).blk, l1, hvl]
  rw [cnd_bool]
  refine ⟨fun h => lv hs3.fr0, fun h => ?_⟩
  clear h lv
  rw [B_topo_Topo]
  refine bxQ hs3 fun g35 w4 hs4 => ?_
  refine rows_lit (q := qv) hs4 S_sl_p_topo_Topo (l := [.pointer none, .pointer (some ⟨g35, 0, none⟩)]) (V := fun a => if a.oneCell' then a else .agg #[a]) (fun a => by
    by_cases h : a.oneCell' = true
    · rw [if_pos h]; cases a <;> simp_all [Value.cells, Value.oneCell', qv]
    · rw [if_neg h]; rfl) rfl rfl (by decide) (by decide) fun g36 w5 hs5 => ?_
  obtain ⟨L, hL⟩ : ∃ L, L = [rows qv (.slice (some ⟨g36, 0, none⟩) 2 2) [.pointer none, .pointer (some ⟨g35, 0, none⟩)], blk g35 (Rdr.cells Q_topo_Topo ((Value.pointer none), ((0 : Int), (0 : Int), (0 : Int), (0 : Int)), Value.map none)).toArray T_topo_Topo, blk g3 (Rdr.cells (rVec 32) id).toArray T_api_ID, blk g2 (Rdr.cells Q_api_Block (b.p, b.h, v)).toArray T_api_Block] := ⟨_, rfl⟩
  replace hs5 : Sep w w5 L := by rw [hL]; exact hs5
  have hnt : ∀ {z : World}, Sep w z L → ∀ (i : Nat) a, ([.pointer none, .pointer (some ⟨g35, 0, none⟩)] : List Value)[i]? = some a → NTo a z := fun {z} hz i a ha => by
    rw [hL] at hz
    match i, ha with
    | 0, ha => cases ha; exact NTo.nil z
    | 1, ha => cases ha; exact NTo.zero hz.p1
  have frw : ∀ {z : World}, Sep w z L → Rows' qv z.heap (.slice (some ⟨g36, 0, none⟩) 2 2) [.pointer none, .pointer (some ⟨g35, 0, none⟩)] := fun {z} hz => by
    rw [hL] at hz
    exact Sep.rows hz
  have f3 : ∀ {z : World} {Xs : List Asn}, Sep w z (Xs ++ L) → ∀ K, ldN 32 (.pointer (some ⟨g3, 0, none⟩)) z.heap K = K (kv id) := fun {z Xs} hz K => by
    have hz := Sep.dropL hz
    rw [hL] at hz
    exact L_api_ID (Sep.blk hz.p2) K
  have f2 : ∀ {z : World}, Sep w z L → ∀ K, ldN 34 (.pointer (some ⟨g2, 0, none⟩)) z.heap K = K (bq b v) := fun {z} hz K => by
    rw [hL] at hz
    exact L_api_Block (Sep.blk hz.p3) K
  clear hL hs4 hs3 hs2 hs1
  have hlen : ∀ K, lenS (.slice (some ⟨g36, 0, none⟩) 2 2) K = K (.int .i64 ((2 : Nat) : Int)) := fun K => (frw hs5).len K
  rw [hlen]
  refine ⟨fun y z => ∃ i : Nat, y = .int .i64 i ∧ i ≤ 2 ∧ Sep w z L, fun y _ => (2 - RowKit.intOf y).toNat, ⟨0, rfl, by omega, hs5⟩, ?_⟩
  rintro _ w6 ⟨i, rfl, hi, hs6⟩ -
  simp only [fx, Nat.reduceAdd, forall_const]
  rw [cnd_bool]
  refine ⟨fun h => ?_, fun h => ?_⟩
  case refine_2 => exact hR _ _ ⟨rfl, hs6.fr0⟩
  have hlt : i < 2 := by simp at h; omega
  obtain ⟨p, hpi⟩ : ∃ p, ([.pointer none, .pointer (some ⟨g35, 0, none⟩)] : List Value)[i]? = some p := ⟨_, List.getElem?_eq_getElem hlt⟩
  change ixs 1 _ _ _
  refine Rows'.ldV (frw hs6) hpi .i64 ?_
  have hp := hnt hs6 i p hpi
  have NTp : ∀ {z : World} {Xs : List Asn}, Sep w z (Xs ++ L) → NTo p z := fun hz => hnt (Sep.dropL hz) i p hpi
  clear hpi
  rw [f2 hs6]
  refine cal_i (pAdd hp b v) ?_
  rintro _ w7 ⟨rfl, hf7⟩
  have hs7 := hs6.old hf7
  simp only [fx, Nat.reduceAdd, forall_const]
  refine alloc_s hs7 (A_api_ID w7) fun g9 w8 hs8 => ?_
  refine St_api_ID (b := vz 32) hs8 fun w9 hs9 => ?_
  refine cal_i (pPoll (NTp (Xs := [_]) hs9) s.v) ?_
  rintro _ w10 ⟨rfl, hf10⟩
  have hs10 := hs9.old hf10
  simp only [fx, Nat.reduceAdd, forall_const]
  rw [f3 (Xs := [_]) hs10]
  refine cal_i (pSnow (NTp (Xs := [_]) hs10) id) ?_
  rintro _ w11 ⟨rfl, hf11⟩
  have hs11 := hs10.old hf11
  simp only [fx, Nat.reduceAdd, forall_const]
  refine alloc_s hs11 (A_api_Snow w11) fun g14 w12 hs12 => ?_
  refine St_api_Snow (b := snr (.slice none 0 0) snZ) hs12 (one_api_Snow rfl) fun w13 hs13 => ?_
  rw [f3 (Xs := [_, _]) hs13]
  refine cal_i (pGet (NTp (Xs := [_, _]) hs13) id) ?_
  rintro _ w14 ⟨rfl, hf14⟩
  have hs14 := hs13.old hf14
  simp only [fx, Nat.reduceAdd, forall_const]
  refine alloc_s hs14 (A_api_Block w14) fun g16 w15 hs15 => ?_
  refine St_api_Block (b := (Blk.none.p, Blk.none.h, .slice none 0 0)) hs15 (one_api_Block rfl) fun w16 hs16 => ?_
  refine cal_i (pRoot (NTp (Xs := [_, _, _]) hs16)) ?_
  rintro _ w17 ⟨rfl, hf17⟩
  have hs17 := hs16.old hf17
  simp only [fx, Nat.reduceAdd, forall_const]
  refine alloc_s hs17 (A_api_ID w17) fun g18 w18 hs18 => ?_
  refine St_api_ID (b := vz 32) hs18 fun w19 hs19 => ?_
  have l0 : ∀ K, lenS (.slice none 0 0) K = K (.int .i64 ((0 : Nat) : Int)) := fun K => (rdNil w19).len K
  have e00 : (IntKind.i64.wrap (((0 : Nat) : Int) + ((0 : Nat) : Int)) != 0) = false := rfl
  have e22 : ((2 : Int) != 2) = false := rfl
  have e0 : ((0 : Int) != 0) = false := rfl
  simp only [fx, Nat.reduceAdd, forall_const, L_api_ID (Sep.blk hs19.p3), B_ID0, ne_api_ID, decide_true, Bool.not_true, e22, l0, e00]
  refine jn1_dup ?_
  simp only [fx, Nat.reduceAdd, forall_const, L_api_Snow (Sep.blk hs19.p2), L_api_Snow__List (Sep.blk hs19.p2), L_api_Snow__Pref (Sep.blk hs19.p2), L_api_Snow__Flake (Sep.blk hs19.p2), L_api_Snow__Conf (Sep.blk hs19.p2), L_api_Snow__Done (Sep.blk hs19.p2), B_api_Snow, e22]
  refine cal_i (rsSame_spec (x := snZ) (y := snZ) (v := .slice none 0 0) (u := .slice none 0 0) (rowsNil0 _ _) (rowsNil0 _ _) (by simp [snZ]) (by simp [snZ])) ?_
  rintro _ w20 ⟨rfl, hf20⟩
  have hs20 := hs19.old hf20
  simp only [fx, Nat.reduceAdd, forall_const, decide_true, Bool.not_true, e22]
  have eS : sameS snZ snZ = true := by simp [sameS]
  rw [eS]
  simp only [fx, Nat.reduceAdd, forall_const, Bool.not_true]
  refine jn1_dup ?_
  simp only [fx, Nat.reduceAdd, forall_const, L_api_Block (Sep.blk hs20.p1), L_api_Block__Parent (Sep.blk hs20.p1), L_api_Block__Height (Sep.blk hs20.p1), L_api_Block__Data (Sep.blk hs20.p1), B_api_Block]
  refine cal_i (rSame_spec (a := Blk.none) (b := Blk.none) (u := .slice none 0 0) (v := .slice none 0 0) (rdNil w20) (rdNil w20)) ?_
  rintro _ w21 ⟨rfl, hf21⟩
  have hs21 := hs20.old hf21
  simp only [fx, Nat.reduceAdd, forall_const, decide_true, Bool.not_true]
  refine jn1_dup ?_
  simp only [fx, Nat.reduceAdd, forall_const, L_api_ID (Sep.blk hs21), ne_api_ID, decide_true, Bool.not_true, e0]
  refine jn1_dup ?_
  rw [f3 (Xs := [_, _, _, _]) hs21]
  refine cal_i (pCount (NTp (Xs := [_, _, _, _]) hs21) s.v id) ?_
  rintro _ w22 ⟨rfl, hf22⟩
  have hs22 := hs21.old hf22
  simp only [fx, Nat.reduceAdd, forall_const, e0]
  refine jn1_dup ?_
  refine cal_i (pPref (NTp (Xs := [_, _, _, _]) hs22)) ?_
  rintro _ w23 ⟨rfl, hf23⟩
  have hs23 := hs22.old hf23
  simp only [fx, Nat.reduceAdd, forall_const, ne_api_ID, decide_true, Bool.not_true]
  refine jn1_dup ?_
  rw [f3 (Xs := [_, _, _, _]) hs23]
  refine cal_i (pPreferred (NTp (Xs := [_, _, _, _]) hs23) id) ?_
  rintro _ w24 ⟨rfl, hf24⟩
  have hs24 := hs23.old hf24
  simp only [fx, Nat.reduceAdd, forall_const]
  refine jn1_dup ?_
  refine cal_i (pTree (NTp (Xs := [_, _, _, _]) hs24)) ?_
  rintro _ w25 ⟨rfl, hf25⟩
  have hs25 := hs24.old hf25
  simp only [fx, Nat.reduceAdd, forall_const, Option.isNone_none, Bool.not_true]
  refine jn1_dup ?_
  rw [f3 (Xs := [_, _, _, _]) hs25]
  refine cal_i (pHas (NTp (Xs := [_, _, _, _]) hs25) id) ?_
  rintro _ w26 ⟨rfl, hf26⟩
  have hs26 := hs25.old hf26
  simp only [fx, Nat.reduceAdd, forall_const]
  refine jn1_dup ?_
  refine cal_i (pLen (NTp (Xs := [_, _, _, _]) hs26)) ?_
  rintro _ w27 ⟨rfl, hf27⟩
  have hs27 := hs26.old hf27
  simp only [fx, Nat.reduceAdd, forall_const, e0]
  refine jn1_dup ?_
  refine cal_i (pClone (NTp (Xs := [_, _, _, _]) hs27)) ?_
  rintro _ w28 ⟨rfl, hf28⟩
  have hs28 := hs27.old hf28
  simp only [fx, Nat.reduceAdd, forall_const, Option.isNone_none, Bool.not_true]
  rw [wi64 (by omega) (by omega)]
  exact ⟨⟨i + 1, by simp, by omega, hs28.tail.tail.tail.tail⟩, by simp [RowKit.intOf]; omega⟩
end
end Go.Fx
namespace Go.Fx
theorem okWide_arr {P : Program} {w : World} {r : Go.Reach} {base n : Nat} {t e : TypeId} {v : Value} (ht : P.underlying t = some (.array n e)) (h : Value.okWide P w r base t v) : ∃ cs, v = .agg cs ∧ cs.size = P.cellsOf t := by
  simp only [Value.okWide, ht] at h
  obtain ⟨cs, h1, h2, _⟩ := h
  exact ⟨cs, h1, h2⟩
end Go.Fx
namespace Go.Proofs.YtpdnddcodnpmeaaDoor
open Go.ChangeShapes Go.WideShapes Go.ChangeAt Go.RowKit
theorem own : ownKnob Tryd.prog.godebug = none := by kernel_rfl
theorem laidOut : laidOutB Tryd.prog = true := by kernel_rfl
end Go.Proofs.YtpdnddcodnpmeaaDoor
namespace Go.Proofs.YtpdnddcodnpmeaaDoor
open Go.ChangeShapes Go.WideShapes Go.ChangeAt Go.RowKit
abbrev laidL : List (String × DataW Unit) := [("flurry/sha.cubes", Rows.laid_flurry_sha_cubes)]
theorem gCubes : Tryd.prog.globalNamed "flurry/sha.cubes" = some 0 := by kernel_rfl
theorem tCubes : (Tryd.prog.globals[0]?).map (·.type) = some Go.Fx.T_a64_uint32 := by kernel_rfl
theorem door_met (os : Os) (args : Array Value) : laidMetH Tryd.prog laidL ((World.doorLaid Tryd.prog 400 os).forCall (fun _ _ => 0) ⟨#[], args, []⟩).memory :=
  laidMetH_of_parts3 (fuel := 8) (laidMet_of_run' 8 (by kernel_rfl) (by kernel_rfl)) (by kernel_rfl) (by kernel_rfl)
theorem cub_of_laid {W : World} (h : laidMetH Tryd.prog laidL W) : Go.Fx.Cub W := by
  rw [MakeChecks.laidMetH_plain _ _ _ (by kernel_rfl)] at h
  obtain ⟨ps, ⟨g0, t0, cs0, f0, p0, q0, hg0, ht0, hv0, hd0, _, _⟩, _, _⟩ := h
  obtain rfl := Option.some.inj (gCubes.symm.trans hg0)
  obtain rfl := Option.some.inj (tCubes.symm.trans ht0)
  have hcs : cs0.toList = Go.Fx.wvs Go.Fx.cubesL := by
    obtain ⟨xs, m1, _, hx1, hlen, hn3, hel⟩ := DataW.trod_array Go.Fx.U_a64_uint32 hd0
    have c1 : Tryd.prog.cellsOf Go.Fx.T_uint32 = 1 := by kernel_rfl
    have c64 : Tryd.prog.cellsOf Go.Fx.T_a64_uint32 = 64 := by kernel_rfl
    rw [c64] at hlen
    rw [c1] at hel
    have hd : (Rows.laid_flurry_sha_cubes : DataW Unit) = .agg (Go.Fx.cubesL.map fun x => .lit (.int .u32 x.toNat)) := by kernel_rfl
    rw [hd] at hx1
    simp only [Prod.mk.injEq, DataW.agg.injEq] at hx1
    apply List.ext_getElem?
    intro i
    by_cases hi : i < 64
    · have h1 := hel i hi
      have hx : xs[i]? = some (xs[i]'(by omega)) := List.getElem?_eq_getElem _
      rw [hx] at h1
      generalize xs[i]'(by omega) = y at *
      obtain ⟨k, e1, e2, _⟩ := DataW.trod_int Go.Fx.U_uint32 h1
      have h2 := congrArg (·[i]?) hx1.1
      simp only [List.getElem?_map, hx, e2, Option.map_some] at h2
      have h3 : cs0.toList[i]? = some (.int .u32 k) := by
        have : ((cs0.toList.drop (i * 1)).take 1)[0]? = some (.int .u32 k) := by rw [e1]; rfl
        rw [List.getElem?_take_of_lt (by omega), List.getElem?_drop, Nat.mul_one, Nat.add_zero] at this
        exact this
      rw [h3, Go.Fx.wvs, List.getElem?_map]
      cases hc : Go.Fx.cubesL[i]? with
      | none => rw [hc] at h2; cases h2
      | some z =>
        rw [hc] at h2
        simp only [Option.map_some, Option.some.injEq, DataW.lit.injEq, Lit.int.injEq, true_and] at h2
        rw [Option.map_some, ← h2]
        rfl
    · rw [List.getElem?_eq_none (by omega), List.getElem?_eq_none (by rw [Go.Fx.wvs, List.length_map]; show 64 ≤ i; omega)]
  have hv1 := hv0
  unfold World.var? at hv1
  rw [hg0] at hv1
  simp only [Option.bind_some] at hv1
  cases hh : W.heap[0]? with
  | none => rw [hh] at hv1; cases hv1
  | some o =>
    rw [hh] at hv1
    cases o with
    | cells cs t fr =>
      simp only [Option.some.injEq] at hv1
      subst hv1
      refine ⟨t, fr, ?_⟩
      rw [hh]
      have : cs = (Go.Fx.wvs Go.Fx.cubesL).toArray := by apply Array.ext'; simpa using hcs
      rw [this]
    | _ => cases hv1
end Go.Proofs.YtpdnddcodnpmeaaDoor
set_option linter.unusedVariables false
set_option linter.unusedSimpArgs false
namespace Go.Proofs.YtpdnddcodnpmeaaDoor
open Go.ChangeShapes Go.WideShapes Go.ChangeAt Go.RowKit
set_option maxRecDepth 100000 in
theorem liftedTopoNone (os : Os) (started : os.Started) (H : Type) (enc : TypeId × Value → H) :
    ReturnsInHanded {} Tryd.checked os 3 .any (fun w args => (Rows.topoNoneSpec.pre enc Tryd.prog Tryd.f3 [] false w args ∧ laidMetH Tryd.prog laidL w) ∧ sizedMet enc Tryd.prog Tryd.f3 (OpenSpec.ofChange Rows.topoNoneSpec) false w args) (Rows.topoNoneSpec.post enc Tryd.prog Tryd.f3 false true false false) := by
  refine returnsInHanded_of_change_and (C := Tryd.checked) (X := fun w _ => laidMetH Tryd.prog laidL w) (fun _ _ _ hh h => h.of_heap hh) own started (by kernel_rfl) Tryd.func3
    (ChangeSpec.witness_shaped (enc := enc) (C := Tryd.checked) (os := os) (X := fun w _ => laidMetH Tryd.prog laidL w) false (World.doorLaid Tryd.prog 400 os) #[((Value.agg ((List.replicate 32 (Value.int IntKind.u8 0) ++ [(Value.int IntKind.i64 0)] ++ [(Value.slice none 0 0)] : List Value).toArray))), ((Value.agg ((List.replicate 32 (Value.int IntKind.u8 0) : List Value).toArray))), .slice none 0 0] 8 rfl (World.shaped_of_RefB (by kernel_rfl) (by kernel_rfl)) (by kernel_rfl) (by kernel_rfl) (by kernel_rfl) (door_met os _)) ?_
  intro W base args ds gs before hval0 hW _ _ hL _
  have hcub : Go.Fx.Cub W := cub_of_laid hL
  have hval : ∀ (j : Nat) t v, Tryd.f3.params[j]? = some t → args[j]? = some v → Value.okWide Tryd.prog W .any base t v := hval0
  have hW' := hW
  obtain ⟨p, q, hA0, hV, rfl, hfz, hnd⟩ := hW
  have hA : DataW.TrodAll enc Tryd.prog W 0 (fun _ => true) true Tryd.f3.params.toList args.toList ds p := hA0
  rw [Tryd.params3] at hA hval
  obtain ⟨v0, vs0, d0, ds0, p0, q0, hargs, rfl, rfl, h0, r0⟩ := trodAll_cons hA
  obtain ⟨v1, vs1, d1, ds1, p1, q1, rfl, rfl, rfl, h1, r1⟩ := trodAll_cons r0
  obtain ⟨v2, vs2, d2, ds2, p2, q2, rfl, rfl, rfl, h2, r2⟩ := trodAll_cons r1
  obtain ⟨rfl, rfl, rfl⟩ := trodAll_nil r2
  obtain rfl : args = #[v0, v1, v2] := by cases args; simp_all
  obtain ⟨rfl, rfl⟩ := trodVars_none hV
  obtain ⟨cs0, rfl, sz0⟩ := okWide_struct Tryd.underlying26 (hval 0 26 v0 rfl rfl)
  have k0 := h0
  have lt0 : ∀ x ∈ p0, x.block < W.heap.size := by obtain ⟨m, hm⟩ := k0; exact DataW.trod_lt m _ _ _ hm
  obtain ⟨f0, hf0⟩ := h0
  have hx0 := Go.Fx.O_api_Block hf0
  obtain ⟨x0, rfl, rd0⟩ := hx0
  obtain ⟨cs1, rfl, sz1⟩ := Go.Fx.okWide_arr Tryd.underlying23 (hval 1 23 v1 rfl rfl)
  have k1 := h1
  have lt1 : ∀ x ∈ p1, x.block < W.heap.size := by obtain ⟨m, hm⟩ := k1; exact DataW.trod_lt m _ _ _ hm
  obtain ⟨f1, hf1⟩ := h1
  have hx1 := Go.Fx.O_api_ID hf1
  obtain ⟨x1, rfl, rd1⟩ := hx1
  obtain ⟨a2, len2, cap2, rfl⟩ := okWide_slice Tryd.underlying27 (hval 2 27 v2 rfl rfl)
  have k2 := h2
  have lt2 : ∀ x ∈ p2, x.block < W.heap.size := by obtain ⟨m, hm⟩ := k2; exact DataW.trod_lt m _ _ _ hm
  obtain ⟨f2, hf2⟩ := h2
  have hx2 := Go.Fx.O_sl_api_Vote hf2
  obtain ⟨l2, rd2⟩ := hx2
  clear hA0 hval0
  have hcal := Go.Fx.wNone19 (id := x1) hcub rd0 rd2
  refine Calls.mono hcal fun e W' ⟨v, he, hv, hf⟩ => ?_
  subst hv
  subst he
  have bel : Below W.heap.size W W' := hf.below (by simp)
  exact ⟨_, rfl, _, _, _, [], _, [], hW', trodAll_mk1 (shut_bool Tryd.underlying4 _), (trodAll_cons_mk (Below.trod laidOut (by kernel_rfl) (of_decide_eq_true (by kernel_rfl)) k0 bel lt0) (trodAll_cons_mk (Below.trod laidOut (by kernel_rfl) (of_decide_eq_true (by kernel_rfl)) k1 bel lt1) (trodAll_cons_mk (Below.trod laidOut (by kernel_rfl) (of_decide_eq_true (by kernel_rfl)) k2 bel lt2) trodAll_mk0))), rfl, bel.frame _, fun h => by cases h⟩
theorem topoNone : Rows.TopoNoneSaid :=
  OpenClaim.holds_of_wide 3 Tryd.f3 rfl rfl rfl rfl rfl rfl rfl ⟨rfl, rfl, rfl, rfl, rfl⟩ rfl rfl rfl rfl rfl (by kernel_rfl) Tryd.func3 (by kernel_rfl)
    (of_decide_eq_true (by kernel_rfl)) (by unfold Func.isWrapper; first | (rw [if_pos (by decide +kernel)]; kernel_rfl) | (rw [if_neg (by decide +kernel)]; exact ⟨rfl, rfl⟩))
    (fun os started H enc _ => liftedTopoNone os started H enc)
theorem topoNoneCard : Rows.TopoNoneCardSaid :=
  Claim7.holds_tied_plain_at .later [] [.data] true (true, "814c5f4dcc407683a071175d808d78fad4e94b36b7a2baeafc9e7f9837170b40") false
    topoNone (fun _ h => by cases h) (by kernel_rfl) (fun _ h => by cases h) topoNone_row_tie rfl ⟨rfl, rfl⟩ (by kernel_rfl) rfl
    (fun f fn hf hfn => by
      obtain rfl : f = 3 := Option.some.inj ((show Tryd.prog.funcNamed "flurry/flurrylaw19.TopoNone" = some 3 by kernel_rfl).symm.trans hf) |>.symm
      obtain rfl : fn = Tryd.f3 := (Option.some.inj (Tryd.func3.symm.trans hfn)).symm
      exact ⟨by kernel_rfl, fun j t ht => by
        rw [Tryd.params3] at ht
        have hm : t ∈ [26, 23, 27] := by simpa using Array.mem_of_getElem? ht
        have hall : ([26, 23, 27].all fun u => !Tryd.prog.wantsStandIn u) = true := by kernel_rfl
        exact (show Tryd.prog.wantsStandIn t = false by simpa using List.all_eq_true.1 hall t hm)⟩)
    (by kernel_rfl)
#print axioms topoNoneCard
end Go.Proofs.YtpdnddcodnpmeaaDoor
