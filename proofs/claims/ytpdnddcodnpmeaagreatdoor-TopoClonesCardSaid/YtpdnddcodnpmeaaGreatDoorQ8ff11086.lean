/-
  Rows that are stored; slices.Reverse; the way to a name.
-/
import Derived.Lib.SlBytesConst
import Derived.MapKept
import Derived.WideKeyRuns
import Derived.Test.YtpdnddcodnpmeaaGreatDoorQ52f385ea
import Derived.Test.YtpdnddcodnpmeaaGreatDoorQed4c4d5e
import Derived.Test.YtpdnddcodnpmeaaGreatDoorQ7b5fe899
import Derived.Test.YtpdnddcodnpmeaaGreatDoorQ3ba871d2
import Derived.Test.YtpdnddcodnpmeaaGreatDoorQ67391b50
import Derived.Test.YtpdnddcodnpmeaaGreatDoorQd963d5f1
import Derived.Test.YtpdnddcodnpmeaaGreatDoorQf186b5bc
import Derived.Test.YtpdnddcodnpmeaaGreatDoorQ738e87f5
set_option linter.unusedVariables false
set_option maxRecDepth 100000
namespace Go.Fx
theorem LZ {α : Type} {o : Option α} (h : o.isSome = true) : o ≠ none := by intro h2; rw [h2] at h; cases h
theorem AhG : P.underlying Iu = some (.int .i64) := by kernel_rfl
theorem ZE : P.underlying CS = some (.int .i64) := by kernel_rfl
theorem U5 : P.underlying F9 = some .bool := by kernel_rfl
theorem Iv : P.underlying Ei = some (.int .u8) := by kernel_rfl
theorem Rk : P.underlying AZ = some (.struct (fsOf P AZ)) := by kernel_rfl
theorem UG : P.underlying Aa = some (.array 32 Ei) := by kernel_rfl
theorem Ph : P.underlying Cr = some (.struct (fsOf P Cr)) := by kernel_rfl
theorem NY : P.underlying FP = some (.slice Be) := by kernel_rfl
theorem DE : P.underlying Az = some (.slice Ei) := by kernel_rfl
theorem EY : SlT P Az Ei 1 1 := ⟨by kernel_rfl, by kernel_rfl, by kernel_rfl, LZ (by kernel_rfl), by kernel_rfl, by decide⟩
theorem Oh : P.underlying IW = some (.slice CO) := by kernel_rfl
theorem SI : P.underlying Be = some (.struct (fsOf P Be)) := by kernel_rfl
theorem MQ : P.underlying Ao = some (.struct (fsOf P Ao)) := by kernel_rfl
theorem EB : P.underlying Ax = some (.slice Aa) := by kernel_rfl
theorem CM : SlT P Ax Aa 32 32 := ⟨by kernel_rfl, by kernel_rfl, by kernel_rfl, LZ (by kernel_rfl), by kernel_rfl, by decide⟩
theorem WF : P.underlying Bb = some (.slice Iu) := by kernel_rfl
theorem OA : SlT P Bb Iu 1 8 := ⟨by kernel_rfl, by kernel_rfl, by kernel_rfl, LZ (by kernel_rfl), by kernel_rfl, by decide⟩
theorem Pv : P.underlying CP = some (.struct (fsOf P CP)) := by kernel_rfl
theorem Gc : P.underlying Bg = some (.slice BQ) := by kernel_rfl
theorem DT : SlT P Bg BQ 33 40 := ⟨by kernel_rfl, by kernel_rfl, by kernel_rfl, LZ (by kernel_rfl), by kernel_rfl, by decide⟩
theorem E5 : P.underlying Bd = some (.slice BH) := by kernel_rfl
theorem CR : SlT P Bd BH 33 40 := ⟨by kernel_rfl, by kernel_rfl, by kernel_rfl, LZ (by kernel_rfl), by kernel_rfl, by decide⟩
theorem V4 : P.underlying Ak = some (.struct (fsOf P Ak)) := by kernel_rfl
theorem Ra : P.underlying AY = some (.struct (fsOf P AY)) := by kernel_rfl
theorem AdO : P.underlying BQ = some (.struct (fsOf P BQ)) := by kernel_rfl
theorem Ch : P.underlying A4 = some (.map Aa Ak) := by kernel_rfl
theorem AcU : P.underlying Bj = some (.struct (fsOf P Bj)) := by kernel_rfl
theorem Il : P.underlying By = some (.map Aa CS) := by kernel_rfl
theorem SG : P.underlying CO = some (.struct (fsOf P CO)) := by kernel_rfl
theorem Cq : P.underlying AT = some (.map Aa Ao) := by kernel_rfl
theorem Tx : P.underlying BE = some (.struct (fsOf P BE)) := by kernel_rfl
theorem FD : P.underlying Bv = some (.slice CD) := by kernel_rfl
theorem Du : SlT P Bv CD 66 96 := ⟨by kernel_rfl, by kernel_rfl, by kernel_rfl, LZ (by kernel_rfl), by kernel_rfl, by decide⟩
theorem PP : P.underlying BZ = some (.struct (fsOf P BZ)) := by kernel_rfl
theorem Fv : P.underlying Br = some (.slice BG) := by kernel_rfl
theorem CU : SlT P Br BG 99 136 := ⟨by kernel_rfl, by kernel_rfl, by kernel_rfl, LZ (by kernel_rfl), by kernel_rfl, by decide⟩
theorem QR : P.underlying BI = some (.struct (fsOf P BI)) := by kernel_rfl
theorem P4 : P.underlying BG = some (.struct (fsOf P BG)) := by kernel_rfl
theorem Kv : P.underlying Fp = some (.map Aa F9) := by kernel_rfl
theorem QU : P.underlying CD = some (.struct (fsOf P CD)) := by kernel_rfl
theorem AaI : P.underlying BH = some (.struct (fsOf P BH)) := by kernel_rfl
theorem Y3 : P.underlying DV = some (.struct (fsOf P DV)) := by kernel_rfl
theorem AgK : P.underlying Ur = some (.int .u32) := by kernel_rfl
theorem Aao : P.underlying Bn = some (.array 64 Ur) := by kernel_rfl
abbrev AK := (Rdr.pair (rInt .i64) (Rdr.pair (rInt .i64) (Rdr.pair (rInt .i64) (rInt .i64))))
theorem Bi {h : Heap} {g : Nat} {t : TypeId} {fr : Nat × Nat} {a} (hg : h[g]? = some (.cells (Rdr.cells AK a).toArray t fr)) (K : Value → Prop) : ldN 4 (.pointer (some ⟨g, 0, none⟩)) h K = K (.agg (Rdr.cells AK a).toArray) := Fld.ldN (r := AK) (s := AK) Fld.self hg K
theorem YO {w0 w : World} {As : List Asn} {g : Nat} {t : TypeId} {a} {b} {K : World → Prop} (hs : Sep w0 w (blk g (Rdr.cells AK a).toArray t :: As)) (h1 : ∀ u ∈ Rdr.cells AK b, u.oneCell' = true) (h : ∀ w', Sep w0 w' (blk g (Rdr.cells AK b).toArray t :: As) → K w') : stN 4 (.pointer (some ⟨g, 0, none⟩)) (.agg (Rdr.cells AK b).toArray) w K := Fld.stN (r := AK) (s := AK) Fld.self hs h1 h
theorem AW {h : Heap} {g : Nat} {t : TypeId} {fr : Nat × Nat} {a} (hg : h[g]? = some (.cells (Rdr.cells AK a).toArray t fr)) (K : Value → Prop) : ld1 (.pointer (some ⟨g, 0, none⟩)) h K = K (.int .i64 a.1) := Fld.ldI (r := AK) (Fld.fst Fld.self) hg K
theorem AG {h : Heap} {g : Nat} {t : TypeId} {fr : Nat × Nat} {a} (hg : h[g]? = some (.cells (Rdr.cells AK a).toArray t fr)) (K : Value → Prop) : ld1 (.pointer (some ⟨g, 1, none⟩)) h K = K (.int .i64 a.2.1) := Fld.ldI (r := AK) (Fld.snd (Fld.fst Fld.self)) hg K
theorem AH {h : Heap} {g : Nat} {t : TypeId} {fr : Nat × Nat} {a} (hg : h[g]? = some (.cells (Rdr.cells AK a).toArray t fr)) (K : Value → Prop) : ld1 (.pointer (some ⟨g, 2, none⟩)) h K = K (.int .i64 a.2.2.1) := Fld.ldI (r := AK) (Fld.snd (Fld.snd (Fld.fst Fld.self))) hg K
theorem AQ {h : Heap} {g : Nat} {t : TypeId} {fr : Nat × Nat} {a} (hg : h[g]? = some (.cells (Rdr.cells AK a).toArray t fr)) (K : Value → Prop) : ld1 (.pointer (some ⟨g, 3, none⟩)) h K = K (.int .i64 a.2.2.2) := Fld.ldI (r := AK) (Fld.snd (Fld.snd (Fld.snd Fld.self))) hg K
theorem Xn {a}  : ∀ u ∈ Rdr.cells AK a, u.oneCell' = true := (B2 oneI (B2 oneI (B2 oneI oneI)))
theorem Z7 (w : World) : (Instr.alloc AZ true (.tuple #[])).run P w = .ok (.pointer (some ⟨w.heap.size, 0, none⟩)) (w.alloc (.cells (Rdr.cells AK ((0 : Int), (0 : Int), (0 : Int), (0 : Int))).toArray AZ)) := by kernel_rfl
theorem Y2 : ((fsOf P AZ).toList.mapM fun f : Field => (P.info? f.type).map fun i => (f.offset, i.size)) = some (#[(0, 1), (1, 1), (2, 1), (3, 1)] : Array (Nat × Nat)).toList := by kernel_rfl
theorem Aas : ((P.info? AZ).bind fun it => it.zero.map fun z => z.cells) = some (Rdr.cells AK ((0 : Int), (0 : Int), (0 : Int), (0 : Int))).toArray := by kernel_rfl
abbrev AU := (Rdr.pair AK (Rdr.pair (rVec 32) (Rdr.pair (rInt .i64) (rInt .i64))))
theorem Cf {h : Heap} {g : Nat} {t : TypeId} {fr : Nat × Nat} {a} (hg : h[g]? = some (.cells (Rdr.cells AU a).toArray t fr)) (K : Value → Prop) : ldN 38 (.pointer (some ⟨g, 0, none⟩)) h K = K (.agg (Rdr.cells AU a).toArray) := Fld.ldN (r := AU) (s := AU) Fld.self hg K
theorem BW {h : Heap} {g : Nat} {t : TypeId} {fr : Nat × Nat} {a} (hg : h[g]? = some (.cells (Rdr.cells AU a).toArray t fr)) (K : Value → Prop) : ldN 4 (.pointer (some ⟨g, 0, none⟩)) h K = K (.agg (Rdr.cells AK a.1).toArray) := Fld.ldN (r := AU) (s := AK) (Fld.fst Fld.self) hg K
theorem BP {h : Heap} {g : Nat} {t : TypeId} {fr : Nat × Nat} {a} (hg : h[g]? = some (.cells (Rdr.cells AU a).toArray t fr)) (K : Value → Prop) : ld1 (.pointer (some ⟨g, 0, none⟩)) h K = K (.int .i64 a.1.1) := Fld.ldI (r := AU) (Fld.fst (Fld.fst Fld.self)) hg K
theorem Bp {h : Heap} {g : Nat} {t : TypeId} {fr : Nat × Nat} {a} (hg : h[g]? = some (.cells (Rdr.cells AU a).toArray t fr)) (K : Value → Prop) : ld1 (.pointer (some ⟨g, 1, none⟩)) h K = K (.int .i64 a.1.2.1) := Fld.ldI (r := AU) (Fld.fst (Fld.snd (Fld.fst Fld.self))) hg K
theorem Bq {h : Heap} {g : Nat} {t : TypeId} {fr : Nat × Nat} {a} (hg : h[g]? = some (.cells (Rdr.cells AU a).toArray t fr)) (K : Value → Prop) : ld1 (.pointer (some ⟨g, 2, none⟩)) h K = K (.int .i64 a.1.2.2.1) := Fld.ldI (r := AU) (Fld.fst (Fld.snd (Fld.snd (Fld.fst Fld.self)))) hg K
theorem BA {h : Heap} {g : Nat} {t : TypeId} {fr : Nat × Nat} {a} (hg : h[g]? = some (.cells (Rdr.cells AU a).toArray t fr)) (K : Value → Prop) : ld1 (.pointer (some ⟨g, 3, none⟩)) h K = K (.int .i64 a.1.2.2.2) := Fld.ldI (r := AU) (Fld.fst (Fld.snd (Fld.snd (Fld.snd Fld.self)))) hg K
theorem BK {h : Heap} {g : Nat} {t : TypeId} {fr : Nat × Nat} {a} (hg : h[g]? = some (.cells (Rdr.cells AU a).toArray t fr)) (K : Value → Prop) : ldN 32 (.pointer (some ⟨g, 4, none⟩)) h K = K (.agg (Rdr.cells (rVec 32) a.2.1).toArray) := Fld.ldN (r := AU) (s := (rVec 32)) (Fld.snd (Fld.fst Fld.self)) hg K
theorem Bz {h : Heap} {g : Nat} {t : TypeId} {fr : Nat × Nat} {a} (hg : h[g]? = some (.cells (Rdr.cells AU a).toArray t fr)) (K : Value → Prop) : ld1 (.pointer (some ⟨g, 36, none⟩)) h K = K (.int .i64 a.2.2.1) := Fld.ldI (r := AU) (Fld.snd (Fld.snd (Fld.fst Fld.self))) hg K
theorem BJ {h : Heap} {g : Nat} {t : TypeId} {fr : Nat × Nat} {a} (hg : h[g]? = some (.cells (Rdr.cells AU a).toArray t fr)) (K : Value → Prop) : ld1 (.pointer (some ⟨g, 37, none⟩)) h K = K (.int .i64 a.2.2.2) := Fld.ldI (r := AU) (Fld.snd (Fld.snd (Fld.snd Fld.self))) hg K
abbrev AM := (Rdr.pair F0 (Rdr.pair (rInt .u8) (Rdr.pair qv qv)))
theorem Cu {h : Heap} {g : Nat} {t : TypeId} {fr : Nat × Nat} {a} (hg : h[g]? = some (.cells (Rdr.cells AM a).toArray t fr)) (K : Value → Prop) : ldN 4 (.pointer (some ⟨g, 0, none⟩)) h K = K (.agg (Rdr.cells AM a).toArray) := Fld.ldN (r := AM) (s := AM) Fld.self hg K
theorem GS {w0 w : World} {As : List Asn} {g : Nat} {t : TypeId} {a} {b} {K : World → Prop} (hs : Sep w0 w (blk g (Rdr.cells AM a).toArray t :: As)) (h1 : ∀ u ∈ Rdr.cells AM b, u.oneCell' = true) (h : ∀ w', Sep w0 w' (blk g (Rdr.cells AM b).toArray t :: As) → K w') : stN 4 (.pointer (some ⟨g, 0, none⟩)) (.agg (Rdr.cells AM b).toArray) w K := Fld.stN (r := AM) (s := AM) Fld.self hs h1 h
theorem Ck {h : Heap} {g : Nat} {t : TypeId} {fr : Nat × Nat} {a} (hg : h[g]? = some (.cells (Rdr.cells AM a).toArray t fr)) (K : Value → Prop) : ld1 (.pointer (some ⟨g, 0, none⟩)) h K = K (.bool a.1) := Fld.ldB (r := AM) (Fld.fst Fld.self) hg K
theorem CI {h : Heap} {g : Nat} {t : TypeId} {fr : Nat × Nat} {a} (hg : h[g]? = some (.cells (Rdr.cells AM a).toArray t fr)) (K : Value → Prop) : ld1 (.pointer (some ⟨g, 1, none⟩)) h K = K (.int .u8 a.2.1) := Fld.ldI (r := AM) (Fld.snd (Fld.fst Fld.self)) hg K
theorem B4 {h : Heap} {g : Nat} {t : TypeId} {fr : Nat × Nat} {a} (hg : h[g]? = some (.cells (Rdr.cells AM a).toArray t fr)) (K : Value → Prop) : ld1 (.pointer (some ⟨g, 2, none⟩)) h K = K (a.2.2.1) := Fld.ld1 (r := AM) (Fld.snd (Fld.snd (Fld.fst Fld.self))) hg K
theorem Cb {h : Heap} {g : Nat} {t : TypeId} {fr : Nat × Nat} {a} (hg : h[g]? = some (.cells (Rdr.cells AM a).toArray t fr)) (K : Value → Prop) : ld1 (.pointer (some ⟨g, 3, none⟩)) h K = K (a.2.2.2) := Fld.ld1 (r := AM) (Fld.snd (Fld.snd (Fld.snd Fld.self))) hg K
theorem Gx {a} (h0 : (a.2.2.1).oneCell' = true) (h1 : (a.2.2.2).oneCell' = true) : ∀ u ∈ Rdr.cells AM a, u.oneCell' = true := (B2 oneB (B2 oneI (B2 (oneV h0) (oneV h1))))
theorem HK (w : World) : (Instr.alloc Be true (.tuple #[])).run P w = .ok (.pointer (some ⟨w.heap.size, 0, none⟩)) (w.alloc (.cells (Rdr.cells AM (false, (0 : Int), ((Value.slice none 0 0)), ((Value.slice none 0 0)))).toArray Be)) := by kernel_rfl
abbrev Aw := (Rdr.pair (rVec 32) (Rdr.pair (rInt .i64) qv))
theorem AA {h : Heap} {g : Nat} {t : TypeId} {fr : Nat × Nat} {a} (hg : h[g]? = some (.cells (Rdr.cells Aw a).toArray t fr)) (K : Value → Prop) : ldN 34 (.pointer (some ⟨g, 0, none⟩)) h K = K (.agg (Rdr.cells Aw a).toArray) := Fld.ldN (r := Aw) (s := Aw) Fld.self hg K
theorem Bm {w0 w : World} {As : List Asn} {g : Nat} {t : TypeId} {a} {b} {K : World → Prop} (hs : Sep w0 w (blk g (Rdr.cells Aw a).toArray t :: As)) (h1 : ∀ u ∈ Rdr.cells Aw b, u.oneCell' = true) (h : ∀ w', Sep w0 w' (blk g (Rdr.cells Aw b).toArray t :: As) → K w') : stN 34 (.pointer (some ⟨g, 0, none⟩)) (.agg (Rdr.cells Aw b).toArray) w K := Fld.stN (r := Aw) (s := Aw) Fld.self hs h1 h
theorem Am {h : Heap} {g : Nat} {t : TypeId} {fr : Nat × Nat} {a} (hg : h[g]? = some (.cells (Rdr.cells Aw a).toArray t fr)) (K : Value → Prop) : ldN 32 (.pointer (some ⟨g, 0, none⟩)) h K = K (.agg (Rdr.cells (rVec 32) a.1).toArray) := Fld.ldN (r := Aw) (s := (rVec 32)) (Fld.fst Fld.self) hg K
theorem Ap {h : Heap} {g : Nat} {t : TypeId} {fr : Nat × Nat} {a} (hg : h[g]? = some (.cells (Rdr.cells Aw a).toArray t fr)) (K : Value → Prop) : ld1 (.pointer (some ⟨g, 32, none⟩)) h K = K (.int .i64 a.2.1) := Fld.ldI (r := Aw) (Fld.snd (Fld.fst Fld.self)) hg K
theorem Ay {h : Heap} {g : Nat} {t : TypeId} {fr : Nat × Nat} {a} (hg : h[g]? = some (.cells (Rdr.cells Aw a).toArray t fr)) (K : Value → Prop) : ld1 (.pointer (some ⟨g, 33, none⟩)) h K = K (a.2.2) := Fld.ld1 (r := Aw) (Fld.snd (Fld.snd Fld.self)) hg K
theorem JY {w0 w : World} {As : List Asn} {g : Nat} {t : TypeId} {a} {b} {K : World → Prop} (hs : Sep w0 w (blk g (Rdr.cells Aw a).toArray t :: As)) (h1 : b.oneCell' = true) (h : ∀ w', Sep w0 w' (blk g (Rdr.cells Aw (a.1, a.2.1, b)).toArray t :: As) → K w') : st1 (.pointer (some ⟨g, 33, none⟩)) (b) w K := Fld.stV (r := Aw) (s := qv) (Fld.snd (Fld.snd Fld.self)) rfl hs h1 h
theorem Bh {a} (h0 : (a.2.2).oneCell' = true) : ∀ u ∈ Rdr.cells Aw a, u.oneCell' = true := (B2 Ca (B2 oneI (oneV h0)))
theorem BF (w : World) : (Instr.alloc Ao true (.tuple #[])).run P w = .ok (.pointer (some ⟨w.heap.size, 0, none⟩)) (w.alloc (.cells (Rdr.cells Aw ((vz 32), (0 : Int), ((Value.slice none 0 0)))).toArray Ao)) := by kernel_rfl
theorem LX : ((fsOf P Ao).toList.mapM fun f : Field => (P.info? f.type).map fun i => (f.offset, i.size)) = some (#[(0, 32), (32, 1), (33, 1)] : Array (Nat × Nat)).toList := by kernel_rfl
theorem M8 : ((P.info? Ao).bind fun it => it.zero.map fun z => z.cells) = some (Rdr.cells Aw ((vz 32), (0 : Int), ((Value.slice none 0 0)))).toArray := by kernel_rfl
abbrev Cd := (Rdr.pair qv qv)
theorem Oi : ((fsOf P CP).toList.mapM fun f : Field => (P.info? f.type).map fun i => (f.offset, i.size)) = some (#[(0, 1), (1, 1)] : Array (Nat × Nat)).toList := by kernel_rfl
theorem O8 : ((P.info? CP).bind fun it => it.zero.map fun z => z.cells) = some (Rdr.cells Cd (((Value.slice none 0 0)), ((Value.slice none 0 0)))).toArray := by kernel_rfl
abbrev D5 := (Rdr.pair qv (Rdr.pair Cd (Rdr.pair qv qv)))
theorem Ni {h : Heap} {g : Nat} {t : TypeId} {fr : Nat × Nat} {a} (hg : h[g]? = some (.cells (Rdr.cells D5 a).toArray t fr)) (K : Value → Prop) : ld1 (.pointer (some ⟨g, 0, none⟩)) h K = K (a.1) := Fld.ld1 (r := D5) (Fld.fst Fld.self) hg K
theorem Kb {h : Heap} {g : Nat} {t : TypeId} {fr : Nat × Nat} {a} (hg : h[g]? = some (.cells (Rdr.cells D5 a).toArray t fr)) (K : Value → Prop) : ld1 (.pointer (some ⟨g, 1, none⟩)) h K = K (a.2.1.1) := Fld.ld1 (r := D5) (Fld.snd (Fld.fst (Fld.fst Fld.self))) hg K
abbrev Aq := (Rdr.pair qv (Rdr.pair (rVec 32) (Rdr.pair (rVec 32) (Rdr.pair (rInt .i64) F0))))
theorem Ar {h : Heap} {g : Nat} {t : TypeId} {fr : Nat × Nat} {a} (hg : h[g]? = some (.cells (Rdr.cells Aq a).toArray t fr)) (K : Value → Prop) : ldN 67 (.pointer (some ⟨g, 0, none⟩)) h K = K (.agg (Rdr.cells Aq a).toArray) := Fld.ldN (r := Aq) (s := Aq) Fld.self hg K
theorem AJ {w0 w : World} {As : List Asn} {g : Nat} {t : TypeId} {a} {b} {K : World → Prop} (hs : Sep w0 w (blk g (Rdr.cells Aq a).toArray t :: As)) (h1 : ∀ u ∈ Rdr.cells Aq b, u.oneCell' = true) (h : ∀ w', Sep w0 w' (blk g (Rdr.cells Aq b).toArray t :: As) → K w') : stN 67 (.pointer (some ⟨g, 0, none⟩)) (.agg (Rdr.cells Aq b).toArray) w K := Fld.stN (r := Aq) (s := Aq) Fld.self hs h1 h
theorem Ad {h : Heap} {g : Nat} {t : TypeId} {fr : Nat × Nat} {a} (hg : h[g]? = some (.cells (Rdr.cells Aq a).toArray t fr)) (K : Value → Prop) : ld1 (.pointer (some ⟨g, 0, none⟩)) h K = K (a.1) := Fld.ld1 (r := Aq) (Fld.fst Fld.self) hg K
theorem Ep {w0 w : World} {As : List Asn} {g : Nat} {t : TypeId} {a} {b} {K : World → Prop} (hs : Sep w0 w (blk g (Rdr.cells Aq a).toArray t :: As)) (h1 : b.oneCell' = true) (h : ∀ w', Sep w0 w' (blk g (Rdr.cells Aq (b, a.2.1, a.2.2.1, a.2.2.2.1, a.2.2.2.2)).toArray t :: As) → K w') : st1 (.pointer (some ⟨g, 0, none⟩)) (b) w K := Fld.stV (r := Aq) (s := qv) (Fld.fst Fld.self) rfl hs h1 h
theorem Ae {h : Heap} {g : Nat} {t : TypeId} {fr : Nat × Nat} {a} (hg : h[g]? = some (.cells (Rdr.cells Aq a).toArray t fr)) (K : Value → Prop) : ldN 32 (.pointer (some ⟨g, 1, none⟩)) h K = K (.agg (Rdr.cells (rVec 32) a.2.1).toArray) := Fld.ldN (r := Aq) (s := (rVec 32)) (Fld.snd (Fld.fst Fld.self)) hg K
theorem KM {w0 w : World} {As : List Asn} {g : Nat} {t : TypeId} {a} {b} {K : World → Prop} (hs : Sep w0 w (blk g (Rdr.cells Aq a).toArray t :: As)) (h1 : ∀ u ∈ Rdr.cells (rVec 32) b, u.oneCell' = true) (h : ∀ w', Sep w0 w' (blk g (Rdr.cells Aq (a.1, b, a.2.2.1, a.2.2.2.1, a.2.2.2.2)).toArray t :: As) → K w') : stN 32 (.pointer (some ⟨g, 1, none⟩)) (.agg (Rdr.cells (rVec 32) b).toArray) w K := Fld.stN (r := Aq) (s := (rVec 32)) (Fld.snd (Fld.fst Fld.self)) hs h1 h
theorem Ac {h : Heap} {g : Nat} {t : TypeId} {fr : Nat × Nat} {a} (hg : h[g]? = some (.cells (Rdr.cells Aq a).toArray t fr)) (K : Value → Prop) : ldN 32 (.pointer (some ⟨g, 33, none⟩)) h K = K (.agg (Rdr.cells (rVec 32) a.2.2.1).toArray) := Fld.ldN (r := Aq) (s := (rVec 32)) (Fld.snd (Fld.snd (Fld.fst Fld.self))) hg K
theorem J7 {w0 w : World} {As : List Asn} {g : Nat} {t : TypeId} {a} {b} {K : World → Prop} (hs : Sep w0 w (blk g (Rdr.cells Aq a).toArray t :: As)) (h1 : ∀ u ∈ Rdr.cells (rVec 32) b, u.oneCell' = true) (h : ∀ w', Sep w0 w' (blk g (Rdr.cells Aq (a.1, a.2.1, b, a.2.2.2.1, a.2.2.2.2)).toArray t :: As) → K w') : stN 32 (.pointer (some ⟨g, 33, none⟩)) (.agg (Rdr.cells (rVec 32) b).toArray) w K := Fld.stN (r := Aq) (s := (rVec 32)) (Fld.snd (Fld.snd (Fld.fst Fld.self))) hs h1 h
theorem Ag {h : Heap} {g : Nat} {t : TypeId} {fr : Nat × Nat} {a} (hg : h[g]? = some (.cells (Rdr.cells Aq a).toArray t fr)) (K : Value → Prop) : ld1 (.pointer (some ⟨g, 65, none⟩)) h K = K (.int .i64 a.2.2.2.1) := Fld.ldI (r := Aq) (Fld.snd (Fld.snd (Fld.snd (Fld.fst Fld.self)))) hg K
theorem DR {w0 w : World} {As : List Asn} {g : Nat} {t : TypeId} {a} {b} {K : World → Prop} (hs : Sep w0 w (blk g (Rdr.cells Aq a).toArray t :: As)) (h : ∀ w', Sep w0 w' (blk g (Rdr.cells Aq (a.1, a.2.1, a.2.2.1, b, a.2.2.2.2)).toArray t :: As) → K w') : st1 (.pointer (some ⟨g, 65, none⟩)) (.int .i64 b) w K := Fld.stV (r := Aq) (s := (rInt .i64)) (Fld.snd (Fld.snd (Fld.snd (Fld.fst Fld.self)))) rfl hs rfl h
theorem Ah {h : Heap} {g : Nat} {t : TypeId} {fr : Nat × Nat} {a} (hg : h[g]? = some (.cells (Rdr.cells Aq a).toArray t fr)) (K : Value → Prop) : ld1 (.pointer (some ⟨g, 66, none⟩)) h K = K (.bool a.2.2.2.2) := Fld.ldB (r := Aq) (Fld.snd (Fld.snd (Fld.snd (Fld.snd Fld.self)))) hg K
theorem KH {w0 w : World} {As : List Asn} {g : Nat} {t : TypeId} {a} {b} {K : World → Prop} (hs : Sep w0 w (blk g (Rdr.cells Aq a).toArray t :: As)) (h : ∀ w', Sep w0 w' (blk g (Rdr.cells Aq (a.1, a.2.1, a.2.2.1, a.2.2.2.1, b)).toArray t :: As) → K w') : st1 (.pointer (some ⟨g, 66, none⟩)) (.bool b) w K := Fld.stV (r := Aq) (s := F0) (Fld.snd (Fld.snd (Fld.snd (Fld.snd Fld.self)))) rfl hs rfl h
theorem AD {a} (h0 : (a.1).oneCell' = true) : ∀ u ∈ Rdr.cells Aq a, u.oneCell' = true := (B2 (oneV h0) (B2 Ca (B2 Ca (B2 oneI oneB))))
theorem Bo (w : World) : (Instr.alloc Ak true (.tuple #[])).run P w = .ok (.pointer (some ⟨w.heap.size, 0, none⟩)) (w.alloc (.cells (Rdr.cells Aq (((Value.slice none 0 0)), (vz 32), (vz 32), (0 : Int), false)).toArray Ak)) := by kernel_rfl
theorem S9 : ((fsOf P Ak).toList.mapM fun f : Field => (P.info? f.type).map fun i => (f.offset, i.size)) = some (#[(0, 1), (1, 32), (33, 32), (65, 1), (66, 1)] : Array (Nat × Nat)).toList := by kernel_rfl
theorem V8 : ((P.info? Ak).bind fun it => it.zero.map fun z => z.cells) = some (Rdr.cells Aq (((Value.slice none 0 0)), (vz 32), (vz 32), (0 : Int), false)).toArray := by kernel_rfl
abbrev AR := (Rdr.pair qv (Rdr.pair qv Cd))
theorem Iw {h : Heap} {g : Nat} {t : TypeId} {fr : Nat × Nat} {a} (hg : h[g]? = some (.cells (Rdr.cells AR a).toArray t fr)) (K : Value → Prop) : ld1 (.pointer (some ⟨g, 0, none⟩)) h K = K (a.1) := Fld.ld1 (r := AR) (Fld.fst Fld.self) hg K
theorem Ek {h : Heap} {g : Nat} {t : TypeId} {fr : Nat × Nat} {a} (hg : h[g]? = some (.cells (Rdr.cells AR a).toArray t fr)) (K : Value → Prop) : ld1 (.pointer (some ⟨g, 1, none⟩)) h K = K (a.2.1) := Fld.ld1 (r := AR) (Fld.snd (Fld.fst Fld.self)) hg K
theorem KS {h : Heap} {g : Nat} {t : TypeId} {fr : Nat × Nat} {a} (hg : h[g]? = some (.cells (Rdr.cells AR a).toArray t fr)) (K : Value → Prop) : ld1 (.pointer (some ⟨g, 2, none⟩)) h K = K (a.2.2.1) := Fld.ld1 (r := AR) (Fld.snd (Fld.snd (Fld.fst Fld.self))) hg K
theorem I5 {h : Heap} {g : Nat} {t : TypeId} {fr : Nat × Nat} {a} (hg : h[g]? = some (.cells (Rdr.cells AR a).toArray t fr)) (K : Value → Prop) : ld1 (.pointer (some ⟨g, 3, none⟩)) h K = K (a.2.2.2) := Fld.ld1 (r := AR) (Fld.snd (Fld.snd (Fld.snd Fld.self))) hg K
theorem Pe : ((fsOf P AY).toList.mapM fun f : Field => (P.info? f.type).map fun i => (f.offset, i.size)) = some (#[(0, 1), (1, 1), (2, 2)] : Array (Nat × Nat)).toList := by kernel_rfl
theorem Qw : ((P.info? AY).bind fun it => it.zero.map fun z => z.cells) = some (Rdr.cells AR (((Value.pointer none)), ((Value.pointer none)), (((Value.slice none 0 0)), ((Value.slice none 0 0))))).toArray := by kernel_rfl
abbrev Au := (Rdr.pair (rVec 32) (rInt .i64))
theorem Oz {h : Heap} {g : Nat} {t : TypeId} {fr : Nat × Nat} {a} (hg : h[g]? = some (.cells (Rdr.cells Au a).toArray t fr)) (K : Value → Prop) : ldN 33 (.pointer (some ⟨g, 0, none⟩)) h K = K (.agg (Rdr.cells Au a).toArray) := Fld.ldN (r := Au) (s := Au) Fld.self hg K
theorem MS {w0 w : World} {As : List Asn} {g : Nat} {t : TypeId} {a} {b} {K : World → Prop} (hs : Sep w0 w (blk g (Rdr.cells Au a).toArray t :: As)) (h1 : ∀ u ∈ Rdr.cells Au b, u.oneCell' = true) (h : ∀ w', Sep w0 w' (blk g (Rdr.cells Au b).toArray t :: As) → K w') : stN 33 (.pointer (some ⟨g, 0, none⟩)) (.agg (Rdr.cells Au b).toArray) w K := Fld.stN (r := Au) (s := Au) Fld.self hs h1 h
theorem He {h : Heap} {g : Nat} {t : TypeId} {fr : Nat × Nat} {a} (hg : h[g]? = some (.cells (Rdr.cells Au a).toArray t fr)) (K : Value → Prop) : ldN 32 (.pointer (some ⟨g, 0, none⟩)) h K = K (.agg (Rdr.cells (rVec 32) a.1).toArray) := Fld.ldN (r := Au) (s := (rVec 32)) (Fld.fst Fld.self) hg K
theorem Mm {h : Heap} {g o : Nat} {a} (hg : At h g o (Rdr.cells Au a)) (K : Value → Prop) : ldN 32 (.pointer (some ⟨g, o, none⟩)) h K = K (.agg (Rdr.cells (rVec 32) a.1).toArray) := Fld.ldNA (r := Au) (s := (rVec 32)) (Fld.fst Fld.self) hg K
theorem Gj {h : Heap} {g : Nat} {t : TypeId} {fr : Nat × Nat} {a} (hg : h[g]? = some (.cells (Rdr.cells Au a).toArray t fr)) (K : Value → Prop) : ld1 (.pointer (some ⟨g, 32, none⟩)) h K = K (.int .i64 a.2) := Fld.ldI (r := Au) (Fld.snd Fld.self) hg K
theorem Jg {h : Heap} {g o : Nat} {a} (hg : At h g o (Rdr.cells Au a)) (K : Value → Prop) : ld1 (.pointer (some ⟨g, o + 32, none⟩)) h K = K (.int .i64 a.2) := Fld.ldI' (r := Au) (Fld.snd Fld.self) hg K
theorem N9 (w : World) : (Instr.alloc BQ true (.tuple #[])).run P w = .ok (.pointer (some ⟨w.heap.size, 0, none⟩)) (w.alloc (.cells (Rdr.cells Au ((vz 32), (0 : Int))).toArray BQ)) := by kernel_rfl
theorem Acg : ((fsOf P BQ).toList.mapM fun f : Field => (P.info? f.type).map fun i => (f.offset, i.size)) = some (#[(0, 32), (32, 1)] : Array (Nat × Nat)).toList := by kernel_rfl
theorem AeH : ((P.info? BQ).bind fun it => it.zero.map fun z => z.cells) = some (Rdr.cells Au ((vz 32), (0 : Int))).toArray := by kernel_rfl
abbrev AP := (Rdr.pair qv (Rdr.pair AK qv))
theorem AcQ {h : Heap} {g : Nat} {t : TypeId} {fr : Nat × Nat} {a} (hg : h[g]? = some (.cells (Rdr.cells AP a).toArray t fr)) (K : Value → Prop) : ldN 6 (.pointer (some ⟨g, 0, none⟩)) h K = K (.agg (Rdr.cells AP a).toArray) := Fld.ldN (r := AP) (s := AP) Fld.self hg K
theorem E6 {h : Heap} {g : Nat} {t : TypeId} {fr : Nat × Nat} {a} (hg : h[g]? = some (.cells (Rdr.cells AP a).toArray t fr)) (K : Value → Prop) : ld1 (.pointer (some ⟨g, 0, none⟩)) h K = K (a.1) := Fld.ld1 (r := AP) (Fld.fst Fld.self) hg K
theorem EC {h : Heap} {g : Nat} {t : TypeId} {fr : Nat × Nat} {a} (hg : h[g]? = some (.cells (Rdr.cells AP a).toArray t fr)) (K : Value → Prop) : ldN 4 (.pointer (some ⟨g, 1, none⟩)) h K = K (.agg (Rdr.cells AK a.2.1).toArray) := Fld.ldN (r := AP) (s := AK) (Fld.snd (Fld.fst Fld.self)) hg K
theorem Ln {h : Heap} {g : Nat} {t : TypeId} {fr : Nat × Nat} {a} (hg : h[g]? = some (.cells (Rdr.cells AP a).toArray t fr)) (K : Value → Prop) : ld1 (.pointer (some ⟨g, 1, none⟩)) h K = K (.int .i64 a.2.1.1) := Fld.ldI (r := AP) (Fld.snd (Fld.fst (Fld.fst Fld.self))) hg K
theorem GU {h : Heap} {g : Nat} {t : TypeId} {fr : Nat × Nat} {a} (hg : h[g]? = some (.cells (Rdr.cells AP a).toArray t fr)) (K : Value → Prop) : ld1 (.pointer (some ⟨g, 2, none⟩)) h K = K (.int .i64 a.2.1.2.1) := Fld.ldI (r := AP) (Fld.snd (Fld.fst (Fld.snd (Fld.fst Fld.self)))) hg K
theorem LW {h : Heap} {g : Nat} {t : TypeId} {fr : Nat × Nat} {a} (hg : h[g]? = some (.cells (Rdr.cells AP a).toArray t fr)) (K : Value → Prop) : ld1 (.pointer (some ⟨g, 3, none⟩)) h K = K (.int .i64 a.2.1.2.2.1) := Fld.ldI (r := AP) (Fld.snd (Fld.fst (Fld.snd (Fld.snd (Fld.fst Fld.self))))) hg K
theorem O3 {h : Heap} {g : Nat} {t : TypeId} {fr : Nat × Nat} {a} (hg : h[g]? = some (.cells (Rdr.cells AP a).toArray t fr)) (K : Value → Prop) : ld1 (.pointer (some ⟨g, 4, none⟩)) h K = K (.int .i64 a.2.1.2.2.2) := Fld.ldI (r := AP) (Fld.snd (Fld.fst (Fld.snd (Fld.snd (Fld.snd Fld.self))))) hg K
theorem C1 {h : Heap} {g : Nat} {t : TypeId} {fr : Nat × Nat} {a} (hg : h[g]? = some (.cells (Rdr.cells AP a).toArray t fr)) (K : Value → Prop) : ld1 (.pointer (some ⟨g, 5, none⟩)) h K = K (a.2.2) := Fld.ld1 (r := AP) (Fld.snd (Fld.snd Fld.self)) hg K
theorem Pj {w0 w : World} {As : List Asn} {g : Nat} {t : TypeId} {a} {b} {K : World → Prop} (hs : Sep w0 w (blk g (Rdr.cells AP a).toArray t :: As)) (h1 : b.oneCell' = true) (h : ∀ w', Sep w0 w' (blk g (Rdr.cells AP (a.1, a.2.1, b)).toArray t :: As) → K w') : st1 (.pointer (some ⟨g, 5, none⟩)) (b) w K := Fld.stV (r := AP) (s := qv) (Fld.snd (Fld.snd Fld.self)) rfl hs h1 h
theorem Aav : ((fsOf P Bj).toList.mapM fun f : Field => (P.info? f.type).map fun i => (f.offset, i.size)) = some (#[(0, 1), (1, 4), (5, 1)] : Array (Nat × Nat)).toList := by kernel_rfl
theorem Ab2 : ((P.info? Bj).bind fun it => it.zero.map fun z => z.cells) = some (Rdr.cells AP (((Value.pointer none)), ((0 : Int), (0 : Int), (0 : Int), (0 : Int)), ((Value.map none)))).toArray := by kernel_rfl
abbrev Bf := (Rdr.pair (rInt .u8) (rInt .i64))
theorem Hz {h : Heap} {g : Nat} {t : TypeId} {fr : Nat × Nat} {a} (hg : h[g]? = some (.cells (Rdr.cells Bf a).toArray t fr)) (K : Value → Prop) : ldN 2 (.pointer (some ⟨g, 0, none⟩)) h K = K (.agg (Rdr.cells Bf a).toArray) := Fld.ldN (r := Bf) (s := Bf) Fld.self hg K
theorem P6 {w0 w : World} {As : List Asn} {g : Nat} {t : TypeId} {a} {b} {K : World → Prop} (hs : Sep w0 w (blk g (Rdr.cells Bf a).toArray t :: As)) (h1 : ∀ u ∈ Rdr.cells Bf b, u.oneCell' = true) (h : ∀ w', Sep w0 w' (blk g (Rdr.cells Bf b).toArray t :: As) → K w') : stN 2 (.pointer (some ⟨g, 0, none⟩)) (.agg (Rdr.cells Bf b).toArray) w K := Fld.stN (r := Bf) (s := Bf) Fld.self hs h1 h
theorem Eu {h : Heap} {g : Nat} {t : TypeId} {fr : Nat × Nat} {a} (hg : h[g]? = some (.cells (Rdr.cells Bf a).toArray t fr)) (K : Value → Prop) : ld1 (.pointer (some ⟨g, 0, none⟩)) h K = K (.int .u8 a.1) := Fld.ldI (r := Bf) (Fld.fst Fld.self) hg K
theorem FK {h : Heap} {g : Nat} {t : TypeId} {fr : Nat × Nat} {a} (hg : h[g]? = some (.cells (Rdr.cells Bf a).toArray t fr)) (K : Value → Prop) : ld1 (.pointer (some ⟨g, 1, none⟩)) h K = K (.int .i64 a.2) := Fld.ldI (r := Bf) (Fld.snd Fld.self) hg K
theorem Pk {a}  : ∀ u ∈ Rdr.cells Bf a, u.oneCell' = true := (B2 oneI oneI)
theorem SF (w : World) : (Instr.alloc CO true (.tuple #[])).run P w = .ok (.pointer (some ⟨w.heap.size, 0, none⟩)) (w.alloc (.cells (Rdr.cells Bf ((0 : Int), (0 : Int))).toArray CO)) := by kernel_rfl
abbrev AN := (Rdr.pair F0 (Rdr.pair (rVec 32) (Rdr.pair (rInt .i64) (Rdr.pair (rInt .i64) (Rdr.pair qv qv)))))
theorem DC {h : Heap} {g : Nat} {t : TypeId} {fr : Nat × Nat} {a} (hg : h[g]? = some (.cells (Rdr.cells AN a).toArray t fr)) (K : Value → Prop) : ldN 37 (.pointer (some ⟨g, 0, none⟩)) h K = K (.agg (Rdr.cells AN a).toArray) := Fld.ldN (r := AN) (s := AN) Fld.self hg K
theorem Ci {h : Heap} {g : Nat} {t : TypeId} {fr : Nat × Nat} {a} (hg : h[g]? = some (.cells (Rdr.cells AN a).toArray t fr)) (K : Value → Prop) : ld1 (.pointer (some ⟨g, 0, none⟩)) h K = K (.bool a.1) := Fld.ldB (r := AN) (Fld.fst Fld.self) hg K
theorem BU {h : Heap} {g : Nat} {t : TypeId} {fr : Nat × Nat} {a} (hg : h[g]? = some (.cells (Rdr.cells AN a).toArray t fr)) (K : Value → Prop) : ldN 32 (.pointer (some ⟨g, 1, none⟩)) h K = K (.agg (Rdr.cells (rVec 32) a.2.1).toArray) := Fld.ldN (r := AN) (s := (rVec 32)) (Fld.snd (Fld.fst Fld.self)) hg K
theorem P8 {w0 w : World} {As : List Asn} {g : Nat} {t : TypeId} {a} {b} {K : World → Prop} (hs : Sep w0 w (blk g (Rdr.cells AN a).toArray t :: As)) (h1 : ∀ u ∈ Rdr.cells (rVec 32) b, u.oneCell' = true) (h : ∀ w', Sep w0 w' (blk g (Rdr.cells AN (a.1, b, a.2.2.1, a.2.2.2.1, a.2.2.2.2.1, a.2.2.2.2.2)).toArray t :: As) → K w') : stN 32 (.pointer (some ⟨g, 1, none⟩)) (.agg (Rdr.cells (rVec 32) b).toArray) w K := Fld.stN (r := AN) (s := (rVec 32)) (Fld.snd (Fld.fst Fld.self)) hs h1 h
theorem BM {h : Heap} {g : Nat} {t : TypeId} {fr : Nat × Nat} {a} (hg : h[g]? = some (.cells (Rdr.cells AN a).toArray t fr)) (K : Value → Prop) : ld1 (.pointer (some ⟨g, 33, none⟩)) h K = K (.int .i64 a.2.2.1) := Fld.ldI (r := AN) (Fld.snd (Fld.snd (Fld.fst Fld.self))) hg K
theorem NW {w0 w : World} {As : List Asn} {g : Nat} {t : TypeId} {a} {b} {K : World → Prop} (hs : Sep w0 w (blk g (Rdr.cells AN a).toArray t :: As)) (h : ∀ w', Sep w0 w' (blk g (Rdr.cells AN (a.1, a.2.1, b, a.2.2.2.1, a.2.2.2.2.1, a.2.2.2.2.2)).toArray t :: As) → K w') : st1 (.pointer (some ⟨g, 33, none⟩)) (.int .i64 b) w K := Fld.stV (r := AN) (s := (rInt .i64)) (Fld.snd (Fld.snd (Fld.fst Fld.self))) rfl hs rfl h
theorem B6 {h : Heap} {g : Nat} {t : TypeId} {fr : Nat × Nat} {a} (hg : h[g]? = some (.cells (Rdr.cells AN a).toArray t fr)) (K : Value → Prop) : ld1 (.pointer (some ⟨g, 34, none⟩)) h K = K (.int .i64 a.2.2.2.1) := Fld.ldI (r := AN) (Fld.snd (Fld.snd (Fld.snd (Fld.fst Fld.self)))) hg K
theorem A7 {h : Heap} {g : Nat} {t : TypeId} {fr : Nat × Nat} {a} (hg : h[g]? = some (.cells (Rdr.cells AN a).toArray t fr)) (K : Value → Prop) : ld1 (.pointer (some ⟨g, 35, none⟩)) h K = K (a.2.2.2.2.1) := Fld.ld1 (r := AN) (Fld.snd (Fld.snd (Fld.snd (Fld.snd (Fld.fst Fld.self))))) hg K
theorem BR {h : Heap} {g : Nat} {t : TypeId} {fr : Nat × Nat} {a} (hg : h[g]? = some (.cells (Rdr.cells AN a).toArray t fr)) (K : Value → Prop) : ld1 (.pointer (some ⟨g, 36, none⟩)) h K = K (a.2.2.2.2.2) := Fld.ld1 (r := AN) (Fld.snd (Fld.snd (Fld.snd (Fld.snd (Fld.snd Fld.self))))) hg K
theorem I6 {w0 w : World} {As : List Asn} {g : Nat} {t : TypeId} {a} {b} {K : World → Prop} (hs : Sep w0 w (blk g (Rdr.cells AN a).toArray t :: As)) (h1 : b.oneCell' = true) (h : ∀ w', Sep w0 w' (blk g (Rdr.cells AN (a.1, a.2.1, a.2.2.1, a.2.2.2.1, a.2.2.2.2.1, b)).toArray t :: As) → K w') : st1 (.pointer (some ⟨g, 36, none⟩)) (b) w K := Fld.stV (r := AN) (s := qv) (Fld.snd (Fld.snd (Fld.snd (Fld.snd (Fld.snd Fld.self))))) rfl hs h1 h
theorem Qd : ((fsOf P BE).toList.mapM fun f : Field => (P.info? f.type).map fun i => (f.offset, i.size)) = some (#[(0, 1), (1, 32), (33, 1), (34, 1), (35, 1), (36, 1)] : Array (Nat × Nat)).toList := by kernel_rfl
theorem Tj : ((P.info? BE).bind fun it => it.zero.map fun z => z.cells) = some (Rdr.cells AN (false, (vz 32), (0 : Int), (0 : Int), ((Value.map none)), ((Value.slice none 0 0)))).toArray := by kernel_rfl
abbrev AO := (Rdr.pair (rVec 32) (Rdr.pair (rInt .i64) (Rdr.pair (rInt .i64) qv)))
theorem Bw {h : Heap} {g : Nat} {t : TypeId} {fr : Nat × Nat} {a} (hg : h[g]? = some (.cells (Rdr.cells AO a).toArray t fr)) (K : Value → Prop) : ldN 35 (.pointer (some ⟨g, 0, none⟩)) h K = K (.agg (Rdr.cells AO a).toArray) := Fld.ldN (r := AO) (s := AO) Fld.self hg K
theorem A3 {h : Heap} {g : Nat} {t : TypeId} {fr : Nat × Nat} {a} (hg : h[g]? = some (.cells (Rdr.cells AO a).toArray t fr)) (K : Value → Prop) : ldN 32 (.pointer (some ⟨g, 0, none⟩)) h K = K (.agg (Rdr.cells (rVec 32) a.1).toArray) := Fld.ldN (r := AO) (s := (rVec 32)) (Fld.fst Fld.self) hg K
theorem MG {w0 w : World} {As : List Asn} {g : Nat} {t : TypeId} {a} {b} {K : World → Prop} (hs : Sep w0 w (blk g (Rdr.cells AO a).toArray t :: As)) (h1 : ∀ u ∈ Rdr.cells (rVec 32) b, u.oneCell' = true) (h : ∀ w', Sep w0 w' (blk g (Rdr.cells AO (b, a.2.1, a.2.2.1, a.2.2.2)).toArray t :: As) → K w') : stN 32 (.pointer (some ⟨g, 0, none⟩)) (.agg (Rdr.cells (rVec 32) b).toArray) w K := Fld.stN (r := AO) (s := (rVec 32)) (Fld.fst Fld.self) hs h1 h
theorem A8 {h : Heap} {g : Nat} {t : TypeId} {fr : Nat × Nat} {a} (hg : h[g]? = some (.cells (Rdr.cells AO a).toArray t fr)) (K : Value → Prop) : ld1 (.pointer (some ⟨g, 32, none⟩)) h K = K (.int .i64 a.2.1) := Fld.ldI (r := AO) (Fld.snd (Fld.fst Fld.self)) hg K
theorem Nd {w0 w : World} {As : List Asn} {g : Nat} {t : TypeId} {a} {b} {K : World → Prop} (hs : Sep w0 w (blk g (Rdr.cells AO a).toArray t :: As)) (h : ∀ w', Sep w0 w' (blk g (Rdr.cells AO (a.1, b, a.2.2.1, a.2.2.2)).toArray t :: As) → K w') : st1 (.pointer (some ⟨g, 32, none⟩)) (.int .i64 b) w K := Fld.stV (r := AO) (s := (rInt .i64)) (Fld.snd (Fld.fst Fld.self)) rfl hs rfl h
theorem A2 {h : Heap} {g : Nat} {t : TypeId} {fr : Nat × Nat} {a} (hg : h[g]? = some (.cells (Rdr.cells AO a).toArray t fr)) (K : Value → Prop) : ld1 (.pointer (some ⟨g, 33, none⟩)) h K = K (.int .i64 a.2.2.1) := Fld.ldI (r := AO) (Fld.snd (Fld.snd (Fld.fst Fld.self))) hg K
theorem AV {h : Heap} {g : Nat} {t : TypeId} {fr : Nat × Nat} {a} (hg : h[g]? = some (.cells (Rdr.cells AO a).toArray t fr)) (K : Value → Prop) : ld1 (.pointer (some ⟨g, 34, none⟩)) h K = K (a.2.2.2) := Fld.ld1 (r := AO) (Fld.snd (Fld.snd (Fld.snd Fld.self))) hg K
theorem Fa {w0 w : World} {As : List Asn} {g : Nat} {t : TypeId} {a} {b} {K : World → Prop} (hs : Sep w0 w (blk g (Rdr.cells AO a).toArray t :: As)) (h1 : b.oneCell' = true) (h : ∀ w', Sep w0 w' (blk g (Rdr.cells AO (a.1, a.2.1, a.2.2.1, b)).toArray t :: As) → K w') : st1 (.pointer (some ⟨g, 34, none⟩)) (b) w K := Fld.stV (r := AO) (s := qv) (Fld.snd (Fld.snd (Fld.snd Fld.self))) rfl hs h1 h
theorem Pq : ((fsOf P BZ).toList.mapM fun f : Field => (P.info? f.type).map fun i => (f.offset, i.size)) = some (#[(0, 32), (32, 1), (33, 1), (34, 1)] : Array (Nat × Nat)).toList := by kernel_rfl
theorem Qx : ((P.info? BZ).bind fun it => it.zero.map fun z => z.cells) = some (Rdr.cells AO ((vz 32), (0 : Int), (0 : Int), ((Value.slice none 0 0)))).toArray := by kernel_rfl
abbrev AX := (Rdr.pair AK (Rdr.pair qv qv))
theorem FB {h : Heap} {g : Nat} {t : TypeId} {fr : Nat × Nat} {a} (hg : h[g]? = some (.cells (Rdr.cells AX a).toArray t fr)) (K : Value → Prop) : ldN 4 (.pointer (some ⟨g, 0, none⟩)) h K = K (.agg (Rdr.cells AK a.1).toArray) := Fld.ldN (r := AX) (s := AK) (Fld.fst Fld.self) hg K
theorem Mj {h : Heap} {g : Nat} {t : TypeId} {fr : Nat × Nat} {a} (hg : h[g]? = some (.cells (Rdr.cells AX a).toArray t fr)) (K : Value → Prop) : ld1 (.pointer (some ⟨g, 0, none⟩)) h K = K (.int .i64 a.1.1) := Fld.ldI (r := AX) (Fld.fst (Fld.fst Fld.self)) hg K
theorem IB {h : Heap} {g : Nat} {t : TypeId} {fr : Nat × Nat} {a} (hg : h[g]? = some (.cells (Rdr.cells AX a).toArray t fr)) (K : Value → Prop) : ld1 (.pointer (some ⟨g, 1, none⟩)) h K = K (.int .i64 a.1.2.1) := Fld.ldI (r := AX) (Fld.fst (Fld.snd (Fld.fst Fld.self))) hg K
theorem Iy {h : Heap} {g : Nat} {t : TypeId} {fr : Nat × Nat} {a} (hg : h[g]? = some (.cells (Rdr.cells AX a).toArray t fr)) (K : Value → Prop) : ld1 (.pointer (some ⟨g, 4, none⟩)) h K = K (a.2.1) := Fld.ld1 (r := AX) (Fld.snd (Fld.fst Fld.self)) hg K
theorem Dw {h : Heap} {g : Nat} {t : TypeId} {fr : Nat × Nat} {a} (hg : h[g]? = some (.cells (Rdr.cells AX a).toArray t fr)) (K : Value → Prop) : ld1 (.pointer (some ⟨g, 5, none⟩)) h K = K (a.2.2) := Fld.ld1 (r := AX) (Fld.snd (Fld.snd Fld.self)) hg K
theorem Fh {w0 w : World} {As : List Asn} {g : Nat} {t : TypeId} {a} {b} {K : World → Prop} (hs : Sep w0 w (blk g (Rdr.cells AX a).toArray t :: As)) (h1 : b.oneCell' = true) (h : ∀ w', Sep w0 w' (blk g (Rdr.cells AX (a.1, a.2.1, b)).toArray t :: As) → K w') : st1 (.pointer (some ⟨g, 5, none⟩)) (b) w K := Fld.stV (r := AX) (s := qv) (Fld.snd (Fld.snd Fld.self)) rfl hs h1 h
theorem Pf : ((fsOf P BI).toList.mapM fun f : Field => (P.info? f.type).map fun i => (f.offset, i.size)) = some (#[(0, 4), (4, 1), (5, 1)] : Array (Nat × Nat)).toList := by kernel_rfl
theorem Qg : ((P.info? BI).bind fun it => it.zero.map fun z => z.cells) = some (Rdr.cells AX (((0 : Int), (0 : Int), (0 : Int), (0 : Int)), ((Value.pointer none)), ((Value.slice none 0 0)))).toArray := by kernel_rfl
abbrev Al := (Rdr.pair (rVec 32) Aq)
theorem QI {h : Heap} {g : Nat} {t : TypeId} {fr : Nat × Nat} {a} (hg : h[g]? = some (.cells (Rdr.cells Al a).toArray t fr)) (K : Value → Prop) : ldN 99 (.pointer (some ⟨g, 0, none⟩)) h K = K (.agg (Rdr.cells Al a).toArray) := Fld.ldN (r := Al) (s := Al) Fld.self hg K
theorem Pu {w0 w : World} {As : List Asn} {g : Nat} {t : TypeId} {a} {b} {K : World → Prop} (hs : Sep w0 w (blk g (Rdr.cells Al a).toArray t :: As)) (h1 : ∀ u ∈ Rdr.cells Al b, u.oneCell' = true) (h : ∀ w', Sep w0 w' (blk g (Rdr.cells Al b).toArray t :: As) → K w') : stN 99 (.pointer (some ⟨g, 0, none⟩)) (.agg (Rdr.cells Al b).toArray) w K := Fld.stN (r := Al) (s := Al) Fld.self hs h1 h
theorem MV {h : Heap} {g : Nat} {t : TypeId} {fr : Nat × Nat} {a} (hg : h[g]? = some (.cells (Rdr.cells Al a).toArray t fr)) (K : Value → Prop) : ldN 32 (.pointer (some ⟨g, 0, none⟩)) h K = K (.agg (Rdr.cells (rVec 32) a.1).toArray) := Fld.ldN (r := Al) (s := (rVec 32)) (Fld.fst Fld.self) hg K
theorem Mi {h : Heap} {g o : Nat} {a} (hg : At h g o (Rdr.cells Al a)) (K : Value → Prop) : ldN 32 (.pointer (some ⟨g, o, none⟩)) h K = K (.agg (Rdr.cells (rVec 32) a.1).toArray) := Fld.ldNA (r := Al) (s := (rVec 32)) (Fld.fst Fld.self) hg K
theorem NJ {h : Heap} {g : Nat} {t : TypeId} {fr : Nat × Nat} {a} (hg : h[g]? = some (.cells (Rdr.cells Al a).toArray t fr)) (K : Value → Prop) : ldN 67 (.pointer (some ⟨g, 32, none⟩)) h K = K (.agg (Rdr.cells Aq a.2).toArray) := Fld.ldN (r := Al) (s := Aq) (Fld.snd Fld.self) hg K
theorem HR {h : Heap} {g o : Nat} {a} (hg : At h g o (Rdr.cells Al a)) (K : Value → Prop) : ldN 67 (.pointer (some ⟨g, o + 32, none⟩)) h K = K (.agg (Rdr.cells Aq a.2).toArray) := Fld.ldNA (r := Al) (s := Aq) (Fld.snd Fld.self) hg K
theorem Ng {w0 w : World} {As : List Asn} {g : Nat} {t : TypeId} {a} {b} {K : World → Prop} (hs : Sep w0 w (blk g (Rdr.cells Al a).toArray t :: As)) (h1 : ∀ u ∈ Rdr.cells Aq b, u.oneCell' = true) (h : ∀ w', Sep w0 w' (blk g (Rdr.cells Al (a.1, b)).toArray t :: As) → K w') : stN 67 (.pointer (some ⟨g, 32, none⟩)) (.agg (Rdr.cells Aq b).toArray) w K := Fld.stN (r := Al) (s := Aq) (Fld.snd Fld.self) hs h1 h
theorem JL {h : Heap} {g o : Nat} {a} (hg : At h g o (Rdr.cells Al a)) (K : Value → Prop) : ld1 (.pointer (some ⟨g, o + 32, none⟩)) h K = K (a.2.1) := Fld.ld1A (r := Al) (Fld.snd (Fld.fst Fld.self)) hg K
theorem FG {h : Heap} {g o : Nat} {a} (hg : At h g o (Rdr.cells Al a)) (K : Value → Prop) : ld1 (.pointer (some ⟨g, o + 98, none⟩)) h K = K (.bool a.2.2.2.2.2) := Fld.ldB' (r := Al) (Fld.snd (Fld.snd (Fld.snd (Fld.snd (Fld.snd Fld.self))))) hg K
theorem N4 {a} (h0 : (a.2.1).oneCell' = true) : ∀ u ∈ Rdr.cells Al a, u.oneCell' = true := (B2 Ca (B2 (oneV h0) (B2 Ca (B2 Ca (B2 oneI oneB)))))
theorem PO (w : World) : (Instr.alloc BG true (.tuple #[])).run P w = .ok (.pointer (some ⟨w.heap.size, 0, none⟩)) (w.alloc (.cells (Rdr.cells Al ((vz 32), (((Value.slice none 0 0)), (vz 32), (vz 32), (0 : Int), false))).toArray BG)) := by kernel_rfl
theorem Pw : ((fsOf P BG).toList.mapM fun f : Field => (P.info? f.type).map fun i => (f.offset, i.size)) = some (#[(0, 32), (32, 67)] : Array (Nat × Nat)).toList := by kernel_rfl
theorem QB : ((P.info? BG).bind fun it => it.zero.map fun z => z.cells) = some (Rdr.cells Al ((vz 32), (((Value.slice none 0 0)), (vz 32), (vz 32), (0 : Int), false))).toArray := by kernel_rfl
abbrev AI := (Rdr.pair (rVec 32) Aw)
theorem Pg {h : Heap} {g o : Nat} {a} (hg : At h g o (Rdr.cells AI a)) (K : Value → Prop) : ldN 66 (.pointer (some ⟨g, o, none⟩)) h K = K (.agg (Rdr.cells AI a).toArray) := Fld.ldNA (r := AI) (s := AI) Fld.self hg K
theorem C6 {h : Heap} {g o : Nat} {a} (hg : At h g o (Rdr.cells AI a)) (K : Value → Prop) : ldN 32 (.pointer (some ⟨g, o, none⟩)) h K = K (.agg (Rdr.cells (rVec 32) a.1).toArray) := Fld.ldNA (r := AI) (s := (rVec 32)) (Fld.fst Fld.self) hg K
theorem Nf {h : Heap} {g o : Nat} {a} (hg : At h g o (Rdr.cells AI a)) (K : Value → Prop) : ldN 34 (.pointer (some ⟨g, o + 32, none⟩)) h K = K (.agg (Rdr.cells Aw a.2).toArray) := Fld.ldNA (r := AI) (s := Aw) (Fld.snd Fld.self) hg K
theorem DY {h : Heap} {g o : Nat} {a} (hg : At h g o (Rdr.cells AI a)) (K : Value → Prop) : ldN 32 (.pointer (some ⟨g, o + 32, none⟩)) h K = K (.agg (Rdr.cells (rVec 32) a.2.1).toArray) := Fld.ldNA (r := AI) (s := (rVec 32)) (Fld.snd (Fld.fst Fld.self)) hg K
theorem Fi {h : Heap} {g o : Nat} {a} (hg : At h g o (Rdr.cells AI a)) (K : Value → Prop) : ld1 (.pointer (some ⟨g, o + 64, none⟩)) h K = K (.int .i64 a.2.2.1) := Fld.ldI' (r := AI) (Fld.snd (Fld.snd (Fld.fst Fld.self))) hg K
theorem PE : ((fsOf P CD).toList.mapM fun f : Field => (P.info? f.type).map fun i => (f.offset, i.size)) = some (#[(0, 32), (32, 34)] : Array (Nat × Nat)).toList := by kernel_rfl
theorem P7 : ((P.info? CD).bind fun it => it.zero.map fun z => z.cells) = some (Rdr.cells AI ((vz 32), ((vz 32), (0 : Int), ((Value.slice none 0 0))))).toArray := by kernel_rfl
abbrev Ab := (Rdr.pair (rVec 32) (rInt .i64))
theorem GN {h : Heap} {g : Nat} {t : TypeId} {fr : Nat × Nat} {a} (hg : h[g]? = some (.cells (Rdr.cells Ab a).toArray t fr)) (K : Value → Prop) : ldN 33 (.pointer (some ⟨g, 0, none⟩)) h K = K (.agg (Rdr.cells Ab a).toArray) := Fld.ldN (r := Ab) (s := Ab) Fld.self hg K
theorem OT {w0 w : World} {As : List Asn} {g : Nat} {t : TypeId} {a} {b} {K : World → Prop} (hs : Sep w0 w (blk g (Rdr.cells Ab a).toArray t :: As)) (h1 : ∀ u ∈ Rdr.cells Ab b, u.oneCell' = true) (h : ∀ w', Sep w0 w' (blk g (Rdr.cells Ab b).toArray t :: As) → K w') : stN 33 (.pointer (some ⟨g, 0, none⟩)) (.agg (Rdr.cells Ab b).toArray) w K := Fld.stN (r := Ab) (s := Ab) Fld.self hs h1 h
theorem EH {h : Heap} {g : Nat} {t : TypeId} {fr : Nat × Nat} {a} (hg : h[g]? = some (.cells (Rdr.cells Ab a).toArray t fr)) (K : Value → Prop) : ldN 32 (.pointer (some ⟨g, 0, none⟩)) h K = K (.agg (Rdr.cells (rVec 32) a.1).toArray) := Fld.ldN (r := Ab) (s := (rVec 32)) (Fld.fst Fld.self) hg K
theorem Sg {h : Heap} {g o : Nat} {a} (hg : At h g o (Rdr.cells Ab a)) (K : Value → Prop) : ldN 32 (.pointer (some ⟨g, o, none⟩)) h K = K (.agg (Rdr.cells (rVec 32) a.1).toArray) := Fld.ldNA (r := Ab) (s := (rVec 32)) (Fld.fst Fld.self) hg K
theorem Dh {h : Heap} {g : Nat} {t : TypeId} {fr : Nat × Nat} {a} (hg : h[g]? = some (.cells (Rdr.cells Ab a).toArray t fr)) (K : Value → Prop) : ld1 (.pointer (some ⟨g, 32, none⟩)) h K = K (.int .i64 a.2) := Fld.ldI (r := Ab) (Fld.snd Fld.self) hg K
theorem C7 {h : Heap} {g o : Nat} {a} (hg : At h g o (Rdr.cells Ab a)) (K : Value → Prop) : ld1 (.pointer (some ⟨g, o + 32, none⟩)) h K = K (.int .i64 a.2) := Fld.ldI' (r := Ab) (Fld.snd Fld.self) hg K
theorem Jw {a}  : ∀ u ∈ Rdr.cells Ab a, u.oneCell' = true := (B2 Ca oneI)
theorem PN (w : World) : (Instr.alloc BH true (.tuple #[])).run P w = .ok (.pointer (some ⟨w.heap.size, 0, none⟩)) (w.alloc (.cells (Rdr.cells Ab ((vz 32), (0 : Int))).toArray BH)) := by kernel_rfl
theorem Zc : ((fsOf P BH).toList.mapM fun f : Field => (P.info? f.type).map fun i => (f.offset, i.size)) = some (#[(0, 32), (32, 1)] : Array (Nat × Nat)).toList := by kernel_rfl
theorem AaX : ((P.info? BH).bind fun it => it.zero.map fun z => z.cells) = some (Rdr.cells Ab ((vz 32), (0 : Int))).toArray := by kernel_rfl
abbrev Na := (Rdr.pair F0 (Rdr.pair qv (rInt .i64)))
abbrev Bl := (Rdr.pair Na (rInt .i64))
theorem EP {h : Heap} {g : Nat} {t : TypeId} {fr : Nat × Nat} {a} (hg : h[g]? = some (.cells (Rdr.cells Bl a).toArray t fr)) (K : Value → Prop) : ldN 4 (.pointer (some ⟨g, 0, none⟩)) h K = K (.agg (Rdr.cells Bl a).toArray) := Fld.ldN (r := Bl) (s := Bl) Fld.self hg K
theorem Dc {h : Heap} {g : Nat} {t : TypeId} {fr : Nat × Nat} {a} (hg : h[g]? = some (.cells (Rdr.cells Bl a).toArray t fr)) (K : Value → Prop) : ldN 3 (.pointer (some ⟨g, 0, none⟩)) h K = K (.agg (Rdr.cells Na a.1).toArray) := Fld.ldN (r := Bl) (s := Na) (Fld.fst Fld.self) hg K
theorem Cw {h : Heap} {g : Nat} {t : TypeId} {fr : Nat × Nat} {a} (hg : h[g]? = some (.cells (Rdr.cells Bl a).toArray t fr)) (K : Value → Prop) : ld1 (.pointer (some ⟨g, 0, none⟩)) h K = K (.bool a.1.1) := Fld.ldB (r := Bl) (Fld.fst (Fld.fst Fld.self)) hg K
theorem K5 {w0 w : World} {As : List Asn} {g : Nat} {t : TypeId} {a} {b} {K : World → Prop} (hs : Sep w0 w (blk g (Rdr.cells Bl a).toArray t :: As)) (h : ∀ w', Sep w0 w' (blk g (Rdr.cells Bl ((b, a.1.2.1, a.1.2.2), a.2)).toArray t :: As) → K w') : st1 (.pointer (some ⟨g, 0, none⟩)) (.bool b) w K := Fld.stV (r := Bl) (s := F0) (Fld.fst (Fld.fst Fld.self)) rfl hs rfl h
theorem CV {h : Heap} {g : Nat} {t : TypeId} {fr : Nat × Nat} {a} (hg : h[g]? = some (.cells (Rdr.cells Bl a).toArray t fr)) (K : Value → Prop) : ld1 (.pointer (some ⟨g, 1, none⟩)) h K = K (a.1.2.1) := Fld.ld1 (r := Bl) (Fld.fst (Fld.snd (Fld.fst Fld.self))) hg K
theorem Nh {w0 w : World} {As : List Asn} {g : Nat} {t : TypeId} {a} {b} {K : World → Prop} (hs : Sep w0 w (blk g (Rdr.cells Bl a).toArray t :: As)) (h1 : b.oneCell' = true) (h : ∀ w', Sep w0 w' (blk g (Rdr.cells Bl ((a.1.1, b, a.1.2.2), a.2)).toArray t :: As) → K w') : st1 (.pointer (some ⟨g, 1, none⟩)) (b) w K := Fld.stV (r := Bl) (s := qv) (Fld.fst (Fld.snd (Fld.fst Fld.self))) rfl hs h1 h
theorem CF {h : Heap} {g : Nat} {t : TypeId} {fr : Nat × Nat} {a} (hg : h[g]? = some (.cells (Rdr.cells Bl a).toArray t fr)) (K : Value → Prop) : ld1 (.pointer (some ⟨g, 2, none⟩)) h K = K (.int .i64 a.1.2.2) := Fld.ldI (r := Bl) (Fld.fst (Fld.snd (Fld.snd Fld.self))) hg K
theorem C5 {h : Heap} {g : Nat} {t : TypeId} {fr : Nat × Nat} {a} (hg : h[g]? = some (.cells (Rdr.cells Bl a).toArray t fr)) (K : Value → Prop) : ld1 (.pointer (some ⟨g, 3, none⟩)) h K = K (.int .i64 a.2) := Fld.ldI (r := Bl) (Fld.snd Fld.self) hg K
theorem WR : ((fsOf P DV).toList.mapM fun f : Field => (P.info? f.type).map fun i => (f.offset, i.size)) = some (#[(0, 3), (3, 1)] : Array (Nat × Nat)).toList := by kernel_rfl
theorem YH : ((P.info? DV).bind fun it => it.zero.map fun z => z.cells) = some (Rdr.cells Bl ((false, ((Value.slice none 0 0)), (0 : Int)), (0 : Int))).toArray := by kernel_rfl
theorem AS (w : World) : (Instr.alloc Aa true (.tuple #[])).run P w = .ok (.pointer (some ⟨w.heap.size, 0, none⟩)) (w.alloc (.cells (Rdr.cells (rVec 32) (vz 32)).toArray Aa)) := by kernel_rfl
theorem Ai {h : Heap} {g : Nat} {t : TypeId} {fr : Nat × Nat} {a} (hg : h[g]? = some (.cells (Rdr.cells (rVec 32) a).toArray t fr)) (K : Value → Prop) : ldN 32 (.pointer (some ⟨g, 0, none⟩)) h K = K (.agg (Rdr.cells (rVec 32) a).toArray) := Fld.ldN (r := rVec 32) (s := rVec 32) Fld.self hg K
theorem AE {w0 w : World} {As : List Asn} {g : Nat} {t : TypeId} {a} {b} {K : World → Prop} (hs : Sep w0 w (blk g (Rdr.cells (rVec 32) a).toArray t :: As)) (h : ∀ w', Sep w0 w' (blk g (Rdr.cells (rVec 32) b).toArray t :: As) → K w') : stN 32 (.pointer (some ⟨g, 0, none⟩)) (.agg (Rdr.cells (rVec 32) b).toArray) w K := Fld.stN (r := rVec 32) (s := rVec 32) Fld.self hs Ca h
theorem JO : EqT P Aa (rVec 32) true 2 := AhI UG Iv (by kernel_rfl) (by kernel_rfl)
theorem B3 {x y : Operand} {w : World} {a b : Vec 32} (K : Value → Prop) : rdP P (eqS .eql Aa x y (.agg (Rdr.cells (rVec 32) a).toArray) (.agg (Rdr.cells (rVec 32) b).toArray)) w K = K (.bool (decide (a = b))) := AhN JO (by decide) (by kernel_rfl) K
theorem C0 {x y : Operand} {w : World} {a b : Vec 32} (K : Value → Prop) : rdP P (eqS .neq Aa x y (.agg (Rdr.cells (rVec 32) a).toArray) (.agg (Rdr.cells (rVec 32) b).toArray)) w K = K (.bool (!decide (a = b))) := XD JO (by decide) (by kernel_rfl) K
theorem Aci : EqT P BQ Au true 3 := U8 (l := [(Aa, 0), (CS, 32)]) (by kernel_rfl) (by kernel_rfl) (by kernel_rfl) (by kernel_rfl) (Z3 JO (Aaa (Afq (Adl ZE (by kernel_rfl)) (by decide))))
theorem AbU {x y : Operand} {w : World} {a b} (K : Value → Prop) : rdP P (eqS .neq BQ x y (.agg (Rdr.cells Au a).toArray) (.agg (Rdr.cells Au b).toArray)) w K = K (.bool (!decide (a = b))) := XD Aci (by decide) (by kernel_rfl) K
theorem YL : EqT P BH Ab true 3 := U8 (l := [(Aa, 0), (CS, 32)]) (by kernel_rfl) (by kernel_rfl) (by kernel_rfl) (by kernel_rfl) (Z3 JO (Aaa (Afq (Adl ZE (by kernel_rfl)) (by decide))))
theorem YI {x y : Operand} {w : World} {a b} (K : Value → Prop) : rdP P (eqS .neq BH x y (.agg (Rdr.cells Ab a).toArray) (.agg (Rdr.cells Ab b).toArray)) w K = K (.bool (!decide (a = b))) := XD YL (by decide) (by kernel_rfl) K
theorem Oo {b0 : Int} {b1 : Int} {b2 : Int} {b3 : Int} {w : World}  (K : Value → Prop) : rdP P (Instr.build AZ #[(0, .int .i64 b0), (1, .int .i64 b1), (2, .int .i64 b2), (3, .int .i64 b3)]) w K = K (.agg (Rdr.cells AK (b0, b1, b2, b3)).toArray) := by
  refine Cx ?_ K
  refine (BT Aas Rk Y2).trans ?_
  refine Eq.trans (A5 (r := AK) (s := (rInt .i64)) (Fld.fst Fld.self) (a := ((0 : Int), (0 : Int), (0 : Int), (0 : Int))) rfl rfl) ?_
  refine Eq.trans (A5 (r := AK) (s := (rInt .i64)) (Fld.snd (Fld.fst Fld.self)) (a := (b0, (0 : Int), (0 : Int), (0 : Int))) rfl rfl) ?_
  refine Eq.trans (A5 (r := AK) (s := (rInt .i64)) (Fld.snd (Fld.snd (Fld.fst Fld.self))) (a := (b0, b1, (0 : Int), (0 : Int))) rfl rfl) ?_
  refine Eq.trans (A5 (r := AK) (s := (rInt .i64)) (Fld.snd (Fld.snd (Fld.snd Fld.self))) (a := (b0, b1, b2, (0 : Int))) rfl rfl) ?_
  rfl
theorem HN  {w : World}  (K : Value → Prop) : rdP P (Instr.build Ao #[]) w K = K (.agg (Rdr.cells Aw ((vz 32), (0 : Int), ((Value.slice none 0 0)))).toArray) := by
  refine Cx ?_ K
  refine (BT M8 MQ LX).trans ?_
  rfl
theorem KJ {b0} {b1 : Int} {b2 : Value} {w : World} (h2 : b2.oneCell' = true) (K : Value → Prop) : rdP P (Instr.build Ao #[(0, .agg (Rdr.cells (rVec 32) b0).toArray), (1, .int .i64 b1), (2, b2)]) w K = K (.agg (Rdr.cells Aw (b0, b1, b2)).toArray) := by
  refine Cx ?_ K
  refine (BT M8 MQ LX).trans ?_
  refine Eq.trans (A5 (r := Aw) (s := (rVec 32)) (Fld.fst Fld.self) (a := ((vz 32), (0 : Int), ((Value.slice none 0 0)))) rfl rfl) ?_
  refine Eq.trans (A5 (r := Aw) (s := (rInt .i64)) (Fld.snd (Fld.fst Fld.self)) (a := (b0, (0 : Int), ((Value.slice none 0 0)))) rfl rfl) ?_
  refine Eq.trans (A5 (r := Aw) (s := qv) (Fld.snd (Fld.snd Fld.self)) (a := (b0, b1, ((Value.slice none 0 0)))) rfl (Dr h2)) ?_
  rfl
theorem Zq {b2 : Value} {w : World} (h2 : b2.oneCell' = true) (K : Value → Prop) : rdP P (Instr.build Ao #[(2, b2)]) w K = K (.agg (Rdr.cells Aw ((vz 32), (0 : Int), b2)).toArray) := by
  refine Cx ?_ K
  refine (BT M8 MQ LX).trans ?_
  refine Eq.trans (A5 (r := Aw) (s := qv) (Fld.snd (Fld.snd Fld.self)) (a := ((vz 32), (0 : Int), ((Value.slice none 0 0)))) rfl (Dr h2)) ?_
  rfl
theorem Ht {b0 : Value} {b1 : Value} {w : World} (h0 : b0.oneCell' = true) (h1 : b1.oneCell' = true) (K : Value → Prop) : rdP P (Instr.build CP #[(0, b0), (1, b1)]) w K = K (.agg (Rdr.cells Cd (b0, b1)).toArray) := by
  refine Cx ?_ K
  refine (BT O8 Pv Oi).trans ?_
  refine Eq.trans (A5 (r := Cd) (s := qv) (Fld.fst Fld.self) (a := (((Value.slice none 0 0)), ((Value.slice none 0 0)))) rfl (Dr h0)) ?_
  refine Eq.trans (A5 (r := Cd) (s := qv) (Fld.snd Fld.self) (a := (b0, ((Value.slice none 0 0)))) rfl (Dr h1)) ?_
  rfl
theorem Ce  {w : World}  (K : Value → Prop) : rdP P (Instr.build Ak #[]) w K = K (.agg (Rdr.cells Aq (((Value.slice none 0 0)), (vz 32), (vz 32), (0 : Int), false)).toArray) := by
  refine Cx ?_ K
  refine (BT V8 V4 S9).trans ?_
  rfl
theorem L8 {b0 : Value} {b1} {b2} {w : World} (h0 : b0.oneCell' = true) (K : Value → Prop) : rdP P (Instr.build Ak #[(0, b0), (1, .agg (Rdr.cells (rVec 32) b1).toArray), (2, .agg (Rdr.cells (rVec 32) b2).toArray)]) w K = K (.agg (Rdr.cells Aq (b0, b1, b2, (0 : Int), false)).toArray) := by
  refine Cx ?_ K
  refine (BT V8 V4 S9).trans ?_
  refine Eq.trans (A5 (r := Aq) (s := qv) (Fld.fst Fld.self) (a := (((Value.slice none 0 0)), (vz 32), (vz 32), (0 : Int), false)) rfl (Dr h0)) ?_
  refine Eq.trans (A5 (r := Aq) (s := (rVec 32)) (Fld.snd (Fld.fst Fld.self)) (a := (b0, (vz 32), (vz 32), (0 : Int), false)) rfl rfl) ?_
  refine Eq.trans (A5 (r := Aq) (s := (rVec 32)) (Fld.snd (Fld.snd (Fld.fst Fld.self))) (a := (b0, b1, (vz 32), (0 : Int), false)) rfl rfl) ?_
  rfl
theorem GT {b0 : Value} {b1 : Value} {b2} {w : World} (h0 : b0.oneCell' = true) (h1 : b1.oneCell' = true) (K : Value → Prop) : rdP P (Instr.build AY #[(0, b0), (1, b1), (2, .agg (Rdr.cells Cd b2).toArray)]) w K = K (.agg (Rdr.cells AR (b0, b1, b2)).toArray) := by
  refine Cx ?_ K
  refine (BT Qw Ra Pe).trans ?_
  refine Eq.trans (A5 (r := AR) (s := qv) (Fld.fst Fld.self) (a := (((Value.pointer none)), ((Value.pointer none)), (((Value.slice none 0 0)), ((Value.slice none 0 0))))) rfl (Dr h0)) ?_
  refine Eq.trans (A5 (r := AR) (s := qv) (Fld.snd (Fld.fst Fld.self)) (a := (b0, ((Value.pointer none)), (((Value.slice none 0 0)), ((Value.slice none 0 0))))) rfl (Dr h1)) ?_
  refine Eq.trans (A5 (r := AR) (s := Cd) (Fld.snd (Fld.snd Fld.self)) (a := (b0, b1, (((Value.slice none 0 0)), ((Value.slice none 0 0))))) rfl rfl) ?_
  rfl
theorem Hj {b0} {b1 : Int} {w : World}  (K : Value → Prop) : rdP P (Instr.build BQ #[(0, .agg (Rdr.cells (rVec 32) b0).toArray), (1, .int .i64 b1)]) w K = K (.agg (Rdr.cells Au (b0, b1)).toArray) := by
  refine Cx ?_ K
  refine (BT AeH AdO Acg).trans ?_
  refine Eq.trans (A5 (r := Au) (s := (rVec 32)) (Fld.fst Fld.self) (a := ((vz 32), (0 : Int))) rfl rfl) ?_
  refine Eq.trans (A5 (r := Au) (s := (rInt .i64)) (Fld.snd Fld.self) (a := (b0, (0 : Int))) rfl rfl) ?_
  rfl
theorem HG {b0 : Value} {b1} {b2 : Value} {w : World} (h0 : b0.oneCell' = true) (h2 : b2.oneCell' = true) (K : Value → Prop) : rdP P (Instr.build Bj #[(0, b0), (1, .agg (Rdr.cells AK b1).toArray), (2, b2)]) w K = K (.agg (Rdr.cells AP (b0, b1, b2)).toArray) := by
  refine Cx ?_ K
  refine (BT Ab2 AcU Aav).trans ?_
  refine Eq.trans (A5 (r := AP) (s := qv) (Fld.fst Fld.self) (a := (((Value.pointer none)), ((0 : Int), (0 : Int), (0 : Int), (0 : Int)), ((Value.map none)))) rfl (Dr h0)) ?_
  refine Eq.trans (A5 (r := AP) (s := AK) (Fld.snd (Fld.fst Fld.self)) (a := (b0, ((0 : Int), (0 : Int), (0 : Int), (0 : Int)), ((Value.map none)))) rfl rfl) ?_
  refine Eq.trans (A5 (r := AP) (s := qv) (Fld.snd (Fld.snd Fld.self)) (a := (b0, b1, ((Value.map none)))) rfl (Dr h2)) ?_
  rfl
theorem Np {b0 : Bool} {b1} {b2 : Int} {b3 : Int} {b4 : Value} {w : World} (h4 : b4.oneCell' = true) (K : Value → Prop) : rdP P (Instr.build BE #[(0, .bool b0), (1, .agg (Rdr.cells (rVec 32) b1).toArray), (2, .int .i64 b2), (3, .int .i64 b3), (4, b4)]) w K = K (.agg (Rdr.cells AN (b0, b1, b2, b3, b4, ((Value.slice none 0 0)))).toArray) := by
  refine Cx ?_ K
  refine (BT Tj Tx Qd).trans ?_
  refine Eq.trans (A5 (r := AN) (s := F0) (Fld.fst Fld.self) (a := (false, (vz 32), (0 : Int), (0 : Int), ((Value.map none)), ((Value.slice none 0 0)))) rfl rfl) ?_
  refine Eq.trans (A5 (r := AN) (s := (rVec 32)) (Fld.snd (Fld.fst Fld.self)) (a := (b0, (vz 32), (0 : Int), (0 : Int), ((Value.map none)), ((Value.slice none 0 0)))) rfl rfl) ?_
  refine Eq.trans (A5 (r := AN) (s := (rInt .i64)) (Fld.snd (Fld.snd (Fld.fst Fld.self))) (a := (b0, b1, (0 : Int), (0 : Int), ((Value.map none)), ((Value.slice none 0 0)))) rfl rfl) ?_
  refine Eq.trans (A5 (r := AN) (s := (rInt .i64)) (Fld.snd (Fld.snd (Fld.snd (Fld.fst Fld.self)))) (a := (b0, b1, b2, (0 : Int), ((Value.map none)), ((Value.slice none 0 0)))) rfl rfl) ?_
  refine Eq.trans (A5 (r := AN) (s := qv) (Fld.snd (Fld.snd (Fld.snd (Fld.snd (Fld.fst Fld.self))))) (a := (b0, b1, b2, b3, ((Value.map none)), ((Value.slice none 0 0)))) rfl (Dr h4)) ?_
  rfl
theorem Hs {b0 : Bool} {b1} {b2 : Int} {b3 : Int} {b4 : Value} {b5 : Value} {w : World} (h4 : b4.oneCell' = true) (h5 : b5.oneCell' = true) (K : Value → Prop) : rdP P (Instr.build BE #[(0, .bool b0), (1, .agg (Rdr.cells (rVec 32) b1).toArray), (2, .int .i64 b2), (3, .int .i64 b3), (4, b4), (5, b5)]) w K = K (.agg (Rdr.cells AN (b0, b1, b2, b3, b4, b5)).toArray) := by
  refine Cx ?_ K
  refine (BT Tj Tx Qd).trans ?_
  refine Eq.trans (A5 (r := AN) (s := F0) (Fld.fst Fld.self) (a := (false, (vz 32), (0 : Int), (0 : Int), ((Value.map none)), ((Value.slice none 0 0)))) rfl rfl) ?_
  refine Eq.trans (A5 (r := AN) (s := (rVec 32)) (Fld.snd (Fld.fst Fld.self)) (a := (b0, (vz 32), (0 : Int), (0 : Int), ((Value.map none)), ((Value.slice none 0 0)))) rfl rfl) ?_
  refine Eq.trans (A5 (r := AN) (s := (rInt .i64)) (Fld.snd (Fld.snd (Fld.fst Fld.self))) (a := (b0, b1, (0 : Int), (0 : Int), ((Value.map none)), ((Value.slice none 0 0)))) rfl rfl) ?_
  refine Eq.trans (A5 (r := AN) (s := (rInt .i64)) (Fld.snd (Fld.snd (Fld.snd (Fld.fst Fld.self)))) (a := (b0, b1, b2, (0 : Int), ((Value.map none)), ((Value.slice none 0 0)))) rfl rfl) ?_
  refine Eq.trans (A5 (r := AN) (s := qv) (Fld.snd (Fld.snd (Fld.snd (Fld.snd (Fld.fst Fld.self))))) (a := (b0, b1, b2, b3, ((Value.map none)), ((Value.slice none 0 0)))) rfl (Dr h4)) ?_
  refine Eq.trans (A5 (r := AN) (s := qv) (Fld.snd (Fld.snd (Fld.snd (Fld.snd (Fld.snd Fld.self))))) (a := (b0, b1, b2, b3, b4, ((Value.slice none 0 0)))) rfl (Dr h5)) ?_
  rfl
theorem GR {b0} {b1 : Int} {b2 : Int} {w : World}  (K : Value → Prop) : rdP P (Instr.build BZ #[(0, .agg (Rdr.cells (rVec 32) b0).toArray), (1, .int .i64 b1), (2, .int .i64 b2)]) w K = K (.agg (Rdr.cells AO (b0, b1, b2, ((Value.slice none 0 0)))).toArray) := by
  refine Cx ?_ K
  refine (BT Qx PP Pq).trans ?_
  refine Eq.trans (A5 (r := AO) (s := (rVec 32)) (Fld.fst Fld.self) (a := ((vz 32), (0 : Int), (0 : Int), ((Value.slice none 0 0)))) rfl rfl) ?_
  refine Eq.trans (A5 (r := AO) (s := (rInt .i64)) (Fld.snd (Fld.fst Fld.self)) (a := (b0, (0 : Int), (0 : Int), ((Value.slice none 0 0)))) rfl rfl) ?_
  refine Eq.trans (A5 (r := AO) (s := (rInt .i64)) (Fld.snd (Fld.snd (Fld.fst Fld.self))) (a := (b0, b1, (0 : Int), ((Value.slice none 0 0)))) rfl rfl) ?_
  rfl
theorem HM {b0} {b1 : Value} {w : World} (h1 : b1.oneCell' = true) (K : Value → Prop) : rdP P (Instr.build BI #[(0, .agg (Rdr.cells AK b0).toArray), (1, b1)]) w K = K (.agg (Rdr.cells AX (b0, b1, ((Value.slice none 0 0)))).toArray) := by
  refine Cx ?_ K
  refine (BT Qg QR Pf).trans ?_
  refine Eq.trans (A5 (r := AX) (s := AK) (Fld.fst Fld.self) (a := (((0 : Int), (0 : Int), (0 : Int), (0 : Int)), ((Value.pointer none)), ((Value.slice none 0 0)))) rfl rfl) ?_
  refine Eq.trans (A5 (r := AX) (s := qv) (Fld.snd (Fld.fst Fld.self)) (a := (b0, ((Value.pointer none)), ((Value.slice none 0 0)))) rfl (Dr h1)) ?_
  rfl
theorem HX {b0} {b1} {w : World}  (K : Value → Prop) : rdP P (Instr.build BG #[(0, .agg (Rdr.cells (rVec 32) b0).toArray), (1, .agg (Rdr.cells Aq b1).toArray)]) w K = K (.agg (Rdr.cells Al (b0, b1)).toArray) := by
  refine Cx ?_ K
  refine (BT QB P4 Pw).trans ?_
  refine Eq.trans (A5 (r := Al) (s := (rVec 32)) (Fld.fst Fld.self) (a := ((vz 32), (((Value.slice none 0 0)), (vz 32), (vz 32), (0 : Int), false))) rfl rfl) ?_
  refine Eq.trans (A5 (r := Al) (s := Aq) (Fld.snd Fld.self) (a := (b0, (((Value.slice none 0 0)), (vz 32), (vz 32), (0 : Int), false))) rfl rfl) ?_
  rfl
theorem MI {b0} {b1} {w : World}  (K : Value → Prop) : rdP P (Instr.build CD #[(0, .agg (Rdr.cells (rVec 32) b0).toArray), (1, .agg (Rdr.cells Aw b1).toArray)]) w K = K (.agg (Rdr.cells AI (b0, b1)).toArray) := by
  refine Cx ?_ K
  refine (BT P7 QU PE).trans ?_
  refine Eq.trans (A5 (r := AI) (s := (rVec 32)) (Fld.fst Fld.self) (a := ((vz 32), ((vz 32), (0 : Int), ((Value.slice none 0 0))))) rfl rfl) ?_
  refine Eq.trans (A5 (r := AI) (s := Aw) (Fld.snd Fld.self) (a := (b0, ((vz 32), (0 : Int), ((Value.slice none 0 0))))) rfl rfl) ?_
  rfl
theorem Hk {b0} {w : World}  (K : Value → Prop) : rdP P (Instr.build BH #[(0, .agg (Rdr.cells (rVec 32) b0).toArray)]) w K = K (.agg (Rdr.cells Ab (b0, (0 : Int))).toArray) := by
  refine Cx ?_ K
  refine (BT AaX AaI Zc).trans ?_
  refine Eq.trans (A5 (r := Ab) (s := (rVec 32)) (Fld.fst Fld.self) (a := ((vz 32), (0 : Int))) rfl rfl) ?_
  rfl
theorem Vo {b1 : Int} {w : World}  (K : Value → Prop) : rdP P (Instr.build DV #[(1, .int .i64 b1)]) w K = K (.agg (Rdr.cells Bl ((false, ((Value.slice none 0 0)), (0 : Int)), b1)).toArray) := by
  refine Cx ?_ K
  refine (BT YH Y3 WR).trans ?_
  refine Eq.trans (A5 (r := Bl) (s := (rInt .i64)) (Fld.snd Fld.self) (a := ((false, ((Value.slice none 0 0)), (0 : Int)), (0 : Int))) rfl rfl) ?_
  rfl
abbrev Adn := (rInt .i64)
theorem Agr : DK P Iu Adn := XY AhG
abbrev OC := (rInt .i64)
theorem NN : DK P CS OC := XY ZE
abbrev Afp := F0
theorem AhS : DK P F9 Afp := AdH U5
abbrev Xj := (rNat .u8 256)
theorem AaV : DK P Ei Xj := Ag4 Iv
abbrev Lv := (Rdr.pair OC (Rdr.pair OC (Rdr.pair OC OC)))
theorem YU : DK P AZ Lv := IV Rk (by kernel_rfl) (Dz (by kernel_rfl) (by kernel_rfl) NN (Dz (by kernel_rfl) (by kernel_rfl) NN (Dz (by kernel_rfl) (by kernel_rfl) NN (JF (by kernel_rfl) (by kernel_rfl) NN))))
abbrev Aa8 := (rVec 32)
theorem AeV : DK P Aa Aa8 := Ae8 UG Iv (by kernel_rfl) (by kernel_rfl)
abbrev EL := (Rdr.pair Lv (Rdr.pair Aa8 (Rdr.pair Adn OC)))
theorem NV : DK P Cr EL := IV Ph (by kernel_rfl) (Dz (by kernel_rfl) (by kernel_rfl) YU (Dz (by kernel_rfl) (by kernel_rfl) AeV (Dz (by kernel_rfl) (by kernel_rfl) Agr (JF (by kernel_rfl) (by kernel_rfl) NN))))
theorem Ps {H : Type} {enc : TypeId × Value → H} {w : World} {sp : Nat → Bool} {held : Bool} {fuel : Nat} {cs : Array Value} {x : DataW H × List MemPlace} (h : DataW.trod enc P w 0 sp held fuel Cr cs.toList = some x) : ∃ a, cs = (Rdr.cells EL a).toArray ∧ Rdr.ok EL w.heap a := by
  obtain ⟨a, e, ok⟩ := NV H enc w sp held fuel _ x h
  exact ⟨a, by apply Array.ext'; exact e, ok⟩
abbrev V1 := AfQ
theorem Ac3 : DK P Az V1 := Ab0 DE Iv (by kernel_rfl)
abbrev HF := (Rdr.pair Xj OC)
theorem Rj : DK P CO HF := IV SG (by kernel_rfl) (Dz (by kernel_rfl) (by kernel_rfl) AaV (JF (by kernel_rfl) (by kernel_rfl) NN))
abbrev IT := (rSl HF)
theorem NL : DK P IW IT := Abi Rj Oh (by kernel_rfl) (by decide)
abbrev DP := (Rdr.pair Afp (Rdr.pair Xj (Rdr.pair V1 IT)))
theorem PT : DK P Be DP := IV SI (by kernel_rfl) (Dz (by kernel_rfl) (by kernel_rfl) AhS (Dz (by kernel_rfl) (by kernel_rfl) AaV (Dz (by kernel_rfl) (by kernel_rfl) Ac3 (JF (by kernel_rfl) (by kernel_rfl) NL))))
abbrev IF := (rSl DP)
theorem NK : DK P FP IF := Abi PT NY (by kernel_rfl) (by decide)
theorem IC {H : Type} {enc : TypeId × Value → H} {w : World} {sp : Nat → Bool} {held : Bool} {fuel : Nat} {v : Value} {x : DataW H × List MemPlace} (h : DataW.trod enc P w 0 sp held fuel FP [v] = some x) : ∃ l, Rdr.ok IF w.heap ⟨v, l⟩ := by
  obtain ⟨⟨v', l⟩, e, ok⟩ := NK H enc w sp held fuel _ x h
  have ev : v = v' := (List.cons.inj e).1
  subst ev
  exact ⟨l, ok⟩
theorem Ij : P.underlying Az = some (.slice Ei) := DE
theorem FL : SlT P Az Ei 1 1 := EY
theorem TL : zc P Ei = #[.int .u8 0] := by kernel_rfl
theorem Abl : P.underlying Ei = some (.int .u8) := Iv
theorem X3 : P.underlying Jj = some .string := by kernel_rfl
theorem Ny : P.underlying F9 = some .bool := by kernel_rfl
end Go.Fx
set_option linter.unusedSimpArgs false
namespace Go.Fx
def part (o : List UInt8) (i : Nat) : List UInt8 := o.take i ++ List.replicate (o.length - i) 0
theorem AgF (o : List UInt8) {i : Nat} (hi : i ≤ o.length) : (part o i).length = o.length := by simp [part]; omega
theorem Agn {o : List UInt8} {i : Nat} {b : UInt8} (hb : o[i]? = some b) : (part o i).set i b = part o (i + 1) := by
  have hi := (List.getElem?_eq_some_iff.1 hb).1
  have hl : (o.take i).length = i := by simp; omega
  unfold part
  rw [List.set_append_right _ _ (by omega), hl, Nat.sub_self, show o.length - i = (o.length - (i + 1)) + 1 by omega, List.replicate_succ, List.set_cons_zero, List.take_add_one, hb]
  simp
theorem XV (o : List UInt8) : part o 0 = List.replicate o.length 0 := by simp [part]
theorem Aby {o : List UInt8} : part o o.length = o := by simp [part]
section
variable {w0 w : World} {As : List Asn} {b s : Value} {l m : List UInt8}
theorem st_b {g i : Nat} {o : List UInt8} {t : TypeId} {u : UInt8} {K : World → Prop} (hs : Sep w0 w (blk g (bvs (part o i)).toArray t :: As)) (hu : o[i]? = some u)
    (h : ∀ w', Sep w0 w' (blk g (bvs (part o (i + 1))).toArray t :: As) → K w') : st1 (.pointer (some ⟨g, i, none⟩)) (bv u) w K := by
  have hi := (List.getElem?_eq_some_iff.1 hu).1
  refine Ib hs (by simp [bvs, AgF o (Nat.le_of_lt hi)]; omega) rfl fun w' hs' => h w' ?_
  have e : (bvs (part o i)).toArray.setIfInBounds i (bv u) = (bvs (part o (i + 1))).toArray := by
    rw [← Agn hu]
    apply Array.ext'
    simp [bvs, List.map_set]
  rw [e] at hs'
  exact hs'
theorem Cv {g n : Nat} (k : IntKind) {i : Nat} (hi : i < n) (K : Value → Prop) : ixa n 1 (.pointer (some ⟨g, 0, none⟩)) (.int k (i : Int)) K = K (.pointer (some ⟨g, i, none⟩)) := by
  rw [AfH _ _ _ _ _ _ _ (by omega) (by omega), Int.toNat_natCast, Nat.zero_add, Nat.mul_one]
theorem app1 {u : UInt8} {K : Value → World → Prop} (hs : Sep w0 w (ownB s l :: As)) (hl : l.length ≤ 1000000) (hk : ∀ v' w', Sep w0 w' (ownB v' (l ++ [u]) :: As) → K v' w') :
    efP P (Instr.buildSlice Az 1 #[(0, bv u)]) w fun t w => efP P (Builtin.append_ #[Az, Az] Az #[s, t]) w K := by
  have hr : ∀ w : World, (Instr.buildSlice Az 1 #[(0, bv u)]).run P w = .ok (.slice (some ⟨w.heap.size, 0, none⟩) 1 1) (w.alloc (.cells (bvs [u]).toArray Ei)) := fun w => by kernel_rfl
  refine UK (l := [u]) hs rfl (hr w) fun g w1 h1 => ?_
  exact G7 EY DE (by simp) h1.p1 h1.rd (by simp; omega) fun v' w' h2 => hk v' w' h2.d1
theorem app0 {K : Value → World → Prop} (j : Int) (hj : j = 0 ∨ j = 128) (hs : Sep w0 w (ownB s l :: As)) (hl : l.length ≤ 1000000) (hk : ∀ v' w', Sep w0 w' (ownB v' (l ++ [if j = 0 then 0 else 128]) :: As) → K v' w') :
    efP P (Instr.buildSlice Az 1 #[(0, .int .u8 j)]) w fun t w => efP P (Builtin.append_ #[Az, Az] Az #[s, t]) w K := by
  rcases hj with rfl | rfl
  · exact app1 (u := 0) hs hl hk
  · exact app1 (u := 128) hs hl hk
theorem Nc (hb : RdB w.heap b l) (hl : l.length ≤ 140737488355328) : cal P Ga [b] w fun r w' => Sep w w' [ownB r l] := by
  refine YC fun R hR => ?_
  unfold OL
  obtain ⟨a, c, hv, hl', hh⟩ := id hb
  subst hv
  cases a with
  | none =>
    have h0 : l = [] := by
      rcases hh with h0 | ⟨_, _, _, _, _, h, _⟩
      · exact List.eq_nil_of_length_eq_zero (by omega)
      · cases h
    subst h0
    simp only [fx, Nat.reduceAdd, forall_const]
    exact hR _ _ (Sep.start w).nil
  | some a =>
    simp only [fx, Nat.reduceAdd, forall_const]
    have hb1 : ∀ w : World, (Instr.buildSlice Az 0 #[]).run P w = .ok (.slice (some ⟨w.heap.size, 0, none⟩) 0 0) (w.alloc (.cells (bvs []).toArray Ei)) := fun w => by kernel_rfl
    refine UK (l := []) (Sep.start w) rfl (hb1 _) fun g w1 hs => ?_
    refine G7 EY DE (by simp) hs (hs.rdB hb) (by simp; omega) fun v' w2 hs => ?_
    exact hR _ _ (by simpa using hs)
end
end Go.Fx
namespace Go.Fx
def WJ (L : List Asn) : List Nat → List Asn → List Asn
  | [], T => T
  | i :: is, T => match L[i]? with
    | some A => A :: WJ L is T
    | none => WJ L is T
theorem Aag {α : Type} : ∀ (X P : List α), X.Nodup → (∀ x ∈ X, x ∈ P) → ∃ rest, P.Perm (X ++ rest)
  | [], P, _, _ => ⟨P, .refl _⟩
  | x :: X, P, hn, hs => by
    obtain ⟨s, t, rfl⟩ := List.append_of_mem (hs x (by simp))
    have hn' := List.nodup_cons.1 hn
    obtain ⟨rest, hr⟩ := Aag X (s ++ t) hn'.2 fun y hy => by
      have := hs y (by simp [hy])
      simp only [List.mem_append, List.mem_cons] at this ⊢
      rcases this with h | h | h
      · exact .inl h
      · subst h; exact absurd hy hn'.1
      · exact .inr h
    exact ⟨rest, List.perm_middle.trans (hr.cons x)⟩
theorem TP (L : List Asn) (T : List Asn) : ∀ is : List Nat, WJ L is T = (is.filterMap fun i => L.zipIdx[i]?).map (·.1) ++ T
  | [] => rfl
  | i :: is => by
    rw [WJ, List.filterMap_cons]
    cases h : L[i]? with
    | none =>
      have : L.zipIdx[i]? = none := by simpa using h
      rw [this]
      exact TP L T is
    | some A =>
      have : L.zipIdx[i]? = some (A, i) := by rw [List.getElem?_zipIdx, h]; simp
      rw [this]
      simp only [List.map_cons, List.cons_append]
      rw [TP L T is]
theorem Ww (L : List Asn) : ∀ is : List Nat, is.Nodup → (is.filterMap fun i => L.zipIdx[i]?).Nodup ∧ ∀ x ∈ (is.filterMap fun i => L.zipIdx[i]?), x.2 ∈ is
  | [], _ => ⟨by simp, by simp⟩
  | i :: is, h => by
    have h' := List.nodup_cons.1 h
    obtain ⟨h1, h2⟩ := Ww L is h'.2
    rw [List.filterMap_cons]
    cases hi : L.zipIdx[i]? with
    | none => exact ⟨h1, fun x hx => by simp [h2 x hx]⟩
    | some x =>
      have hx : x.2 = i := by
        rw [List.getElem?_zipIdx] at hi
        cases hL : L[i]? with
        | none => simp [hL] at hi
        | some A => simp [hL] at hi; rw [← hi]
      refine ⟨List.nodup_cons.2 ⟨fun hm => h'.1 (hx ▸ h2 x hm), h1⟩, fun y hy => ?_⟩
      rcases List.mem_cons.1 hy with rfl | hy
      · simp [hx]
      · simp [h2 y hy]
theorem Sep.dropL {w0 w : World} : ∀ {As Bs : List Asn}, Sep w0 w (As ++ Bs) → Sep w0 w Bs
  | [], _, h => h
  | _ :: As, _, h => Sep.dropL (As := As) h.tail
theorem Sep.pick {w0 w : World} {As : List Asn} (h : Sep w0 w As) (is : List Nat) (n : Nat) (hn : is.Nodup := by decide) : Sep w0 w (WJ (As.take n) is (As.drop n)) := by
  obtain ⟨h1, h2⟩ := Ww (As.take n) is hn
  obtain ⟨rest, hr⟩ := Aag (is.filterMap fun i => (As.take n).zipIdx[i]?) (As.take n).zipIdx h1 fun x hx => by
    obtain ⟨i, _, hi⟩ := List.mem_filterMap.1 hx
    exact List.mem_of_getElem? hi
  rw [TP]
  have hp := hr.map (·.1)
  rw [List.map_append, List.zipIdx_map_fst] at hp
  have h3 : Sep w0 w ((rest.map (·.1)) ++ ((is.filterMap fun i => (As.take n).zipIdx[i]?).map (·.1) ++ As.drop n)) := by
    refine h.perm ?_
    have e := List.take_append_drop n As
    rw [← List.append_assoc]
    refine (List.Perm.of_eq e.symm).trans (List.Perm.append_right _ (hp.trans List.perm_append_comm))
  exact h3.dropL
def rdA (v : Value) (l : List UInt8) : Asn where
  on h F := ∃ g o c cur t fr, v = .slice (some ⟨g, o, none⟩) l.length c ∧ h[g]? = some (.cells cur t fr) ∧ (cur.toList.drop o).take l.length = bvs l ∧ l.length ≤ c ∧ F = [g]
  fr := fun ⟨g, o, c, cur, t, fr, hv, hg, hc, hle, hF⟩ hf hn => ⟨g, o, c, cur, t, fr, hv, hf.blk hg (hn g (by simp [hF])), hc, hle, hF⟩
  lt := fun ⟨g, o, c, cur, t, fr, hv, hg, hc, hle, hF⟩ k hk => by simp [hF] at hk; subst hk; exact JI hg
theorem Sep.rda {w0 w : World} {As : List Asn} {v : Value} {l : List UInt8} (h : Sep w0 w (rdA v l :: As)) : RdB w.heap v l := by
  obtain ⟨F, g, o, c, cur, t, fr, rfl, hg, hc, hle, rfl⟩ := h.head
  exact ⟨_, c, rfl, by simp [bvs], .inr ⟨g, o, cur, t, fr, rfl, hg, by rw [Nat.mul_one]; exact hc⟩⟩
theorem Ahb {P : Program} {w0 w : World} {As : List Asn} {t E n : Nat} {s : Sem Value} {l : List UInt8} {K : Value → World → Prop} (hs : Sep w0 w As) (ht : P.underlying t = some (.slice E)) (he : P.underlying E = some (.int .u8)) (hn : n = l.length)
    (hr : s.run P w = .ok (.slice (some ⟨w.heap.size, 0, none⟩) n n) (w.alloc (.cells (bvs l).toArray E))) (h : ∀ g w', Sep w0 w' (rdA (.slice (some ⟨g, 0, none⟩) n n) l :: As) → K (.slice (some ⟨g, 0, none⟩) n n) w') :
    efP P s w fun x w => efP P (convert t t x) w K := by
  subst hn
  refine ⟨_, _, hr, _, _, Lib.run_convert_bytes_const w t E _ _ _ ht he, h _ _ (hs.new (Fb w _) (B := rdA _ _) (F' := [w.heap.size]) ⟨_, 0, _, _, E, _, rfl, Ez w _, by rw [List.drop_zero]; exact List.take_of_length_le (by simp [bvs]), Nat.le_refl _, rfl⟩ (by simp))⟩
theorem At.rd {h : Heap} {g o c : Nat} {l : List UInt8} (ha : At h g o (bvs l)) : RdB h (.slice (some ⟨g, o, none⟩) l.length c) l := by
  obtain ⟨cur, t, fr, hg, hn, hc⟩ := ha
  refine ⟨_, c, rfl, by simp [bvs], .inr ⟨g, o, cur, t, fr, rfl, hg, ?_⟩⟩
  rw [Nat.mul_one]
  rw [K6] at hc
  exact hc
theorem Xy (len size g o : Nat) (K : Value → Prop) : sla len size (.pointer (some ⟨g, o, none⟩)) none none K = K (.slice (some ⟨g, o, none⟩) len len) := by
  have e : (if len = 0 then (⟨g, o, none⟩ : Addr) else Addr.add ⟨g, o, none⟩ (0 * size)) = ⟨g, o, none⟩ := by
    split
    · rfl
    · rw [Nat.zero_mul, Fd, Nat.add_zero]
  refine propext ⟨?_, fun hk => ⟨_, rfl, ?_⟩⟩
  · rintro ⟨a, ha, hk⟩
    cases ha
    simp only [bndO, e, Nat.sub_zero] at hk
    exact hk
  · simp only [bndO, e, Nat.sub_zero]
    exact hk
section
variable {w0 w : World} {As : List Asn} {g n v : Nat} {s ha hc : Value} {a b c : List UInt8}
theorem VY (z : World) : RdB z.heap (.slice none 0 0) [] := ⟨none, 0, rfl, rfl, .inl rfl⟩
theorem AhU (hn : n ≤ 8) (hv : v < 18446744073709551616) : cal P ES [.int .i64 n, .int .u64 v] w fun r w' => Sep w w' [ownB r (be n v)] := by
  refine Yn fun R hR => ?_
  unfold ON
  refine Ad8 (Sep.start w) FL TL (by omega) fun g w1 hs => ?_
  simp only [fx, Nat.reduceAdd, forall_const]
  refine ⟨fun a w2 => ∃ i : Nat, i ≤ n ∧ a = .int .i64 i ∧ Sep w w2 [ownB (.slice (some ⟨g, 0, none⟩) n n) (List.replicate (n - i) 0 ++ be i v)], fun a _ => n - (RowKit.intOf a).toNat, ⟨0, by omega, rfl, by simpa [be] using hs⟩, ?_⟩
  rintro _ w2 ⟨i, hi, rfl, hs2⟩ -
  simp only [fx, Nat.reduceAdd, forall_const]
  rw [Aj]
  refine ⟨fun h => ?_, fun h => ?_⟩
  · have hlt : i < n := by simpa using h
    simp (disch := omega) only [fx, Nat.reduceAdd, forall_const, wi64, Vr]
    have e1 : IntKind.u64.bits = 64 := rfl
    have e2 : (n : Int) - 1 - i = ((n - 1 - i : Nat) : Int) := by omega
    rw [e1, shr8 v i (by omega), US _ (Int.natCast_nonneg _), Int.toNat_natCast, e2]
    refine AfZ hs2 (by simp [Cg]; omega) _ fun w3 hs3 => ?_
    refine ⟨⟨i + 1, by omega, by simp, ?_⟩, by simp [RowKit.intOf]; omega⟩
    have e3 : (List.replicate (n - i) (0 : UInt8) ++ be i v).set (n - 1 - i) (UInt8.ofNat (v / 256 ^ i)) = List.replicate (n - (i + 1)) 0 ++ be (i + 1) v := by
      rw [show n - i = (n - (i + 1)) + 1 by omega, List.replicate_succ', List.append_assoc, List.set_append_right _ _ (by simp; omega), NQ]
      congr 1
      rw [show n - 1 - i - (List.replicate (n - (i + 1)) (0 : UInt8)).length = 0 by simp; omega]
      rfl
    rw [← e3]
    exact hs3
  · have hlt : ¬ i < n := by simpa using h
    obtain rfl : i = n := by omega
    exact hR _ _ (by simpa using hs2)
abbrev pk (g : Nat) (s : Value) (n : Nat) : Asn := blk g (Rdr.cells Bl ((true, s, 0), (n : Int))).toArray DV
theorem AiB (hs : Sep w0 w (pk g s n :: As)) : cal P Gv [.pointer (some ⟨g, 0, none⟩)] w fun r w' => r = .bool true ∧ w = w' := by
  refine PC fun R hR => ?_
  unfold I8
  simp only [fx, Nat.reduceAdd, forall_const, EP hs.blk, Dc hs.blk, Cw hs.blk, CV hs.blk, CF hs.blk, C5 hs.blk]
  exact hR _ _ ⟨rfl, rfl⟩
theorem putS (hs : Sep w0 w (pk g s n :: ownB s b :: As)) (hra : ∀ z, Sep w0 z As → RdB z.heap ha a) (hrc : ∀ z, Sep w0 z As → RdB z.heap hc c) (hn : n ≤ 8192) (hf : b.length + a.length + c.length ≤ n) :
    cal P C9 [.pointer (some ⟨g, 0, none⟩), ha, hc] w fun v w' => v = .tuple #[] ∧ ∃ s', Sep w0 w' (pk g s' n :: ownB s' (b ++ a ++ c) :: As) := by
  refine Sw fun R hR => ?_
  unfold Kr
  refine Af (AiB hs) ?_
  rintro _ _ ⟨rfl, rfl⟩
  simp only [fx, Nat.reduceAdd, forall_const]
  refine CT hs fun w1 hs1 _ => ?_
  have hlb := (Sep.rd hs1.p1).len
  have hla := (hra _ hs1.tail.tail).len
  have hlc := (hrc _ hs1.tail.tail).len
  simp only [fx, Nat.reduceAdd, forall_const, EP hs1.blk, Dc hs1.blk, Cw hs1.blk, CV hs1.blk, CF hs1.blk, C5 hs1.blk, hlb, hla, hlc]
  rw [wi64 (x := (n : Int) - b.length) (by omega) (by omega), decide_eq_false (by omega)]
  simp only [fx, Nat.reduceAdd, forall_const]
  rw [wi64 (by omega) (by omega), decide_eq_false (by omega)]
  simp only [fx, Nat.reduceAdd, forall_const, EP hs1.blk, Dc hs1.blk, Cw hs1.blk, CV hs1.blk, CF hs1.blk, C5 hs1.blk]
  refine G7 FL Ij (by simp) hs1.p1 (hra _ hs1.tail.tail) (by omega) fun s1 w2 hs2 => ?_
  refine G7 FL Ij (by simp) hs2 (hrc _ hs2.tail.tail) (by simp; omega) fun s2 w3 hs3 => ?_
  refine Nh hs3.p1 (Sep.one hs3) fun w4 hs4 => ?_
  exact hR _ _ ⟨rfl, s2, hs4⟩
theorem NewS (n : Nat) (hn : n ≤ 8192) : cal P NR [.int .i64 n] w fun v w' => ∃ g, v = .pointer (some ⟨g, 0, none⟩) ∧ Sep w w' [pk g (.slice none 0 0) n, ownB (.slice none 0 0) []] := by
  refine Ad4 fun R hR => ?_
  unfold Wo
  rw [Vo]
  refine bx_s (Sep.start w).nil fun g w1 hs => ?_
  simp only [fx, Nat.reduceAdd, forall_const]
  refine K5 hs fun w2 hs2 => ?_
  rw [decide_eq_false (by omega), decide_eq_false (by omega)]
  simp only [fx, Nat.reduceAdd, forall_const]
  exact hR _ _ ⟨g, rfl, hs2⟩
def PkQ (w0 : World) (As : List Asn) (g n : Nat) (b : List UInt8) (v : Value) (w' : World) : Prop := v = .tuple #[] ∧ ∃ s', Sep w0 w' (pk g s' n :: ownB s' b :: As)
section
variable (hs : Sep w0 w (pk g s n :: ownB s b :: As)) (hn : n ≤ 8192)
include hs hn
theorem Xa {m : Nat} {K : World → Prop} (hrc : ∀ z, Sep w0 z As → RdB z.heap hc c) (hm : m ≤ 8) (hv : v < 18446744073709551616) (hf : b.length + m + c.length ≤ n) (h : ∀ s' w', Sep w0 w' (pk g s' n :: ownB s' (b ++ (be m v ++ c)) :: As) → K w') :
    cal P ES [.int .i64 m, .int .u64 v] w fun t w => cal P C9 [.pointer (some ⟨g, 0, none⟩), t, hc] w fun _ w => K w := by
  refine Af (AhU hm hv) ?_
  rintro t w1 hs1
  replace hs1 := (hs.join hs1).q2
  refine Af (putS (As := ownB t (be m v) :: As) hs1 (fun z hz => Sep.rd hz) (fun z hz => hrc z hz.tail) hn (by rw [Cg]; omega)) ?_
  rintro _ w2 ⟨rfl, s', hs2⟩
  have := hs2.d2
  rw [List.append_assoc] at this
  exact h s' w2 this
theorem Ain (hv : v < 65536) (hf : b.length + 2 ≤ n) : cal P Gu [.pointer (some ⟨g, 0, none⟩), .int .u16 v] w (PkQ w0 As g n (b ++ be 2 v)) := by
  refine Pn fun R hR => ?_
  unfold Jb
  simp (disch := omega) only [fx, Nat.reduceAdd, forall_const, K2]
  refine Xa (m := 2) hs hn (c := []) (fun z _ => VY z) (by omega) (by omega) (by simpa using hf) fun s' w' h => ?_
  rw [List.append_nil] at h
  exact hR _ _ ⟨rfl, s', h⟩
theorem Ai2 (hv : v < 18446744073709551616) (hf : b.length + 8 ≤ n) : cal P GM [.pointer (some ⟨g, 0, none⟩), .int .u64 v] w (PkQ w0 As g n (b ++ be 8 v)) := by
  refine QZ fun R hR => ?_
  unfold J0
  refine Xa (m := 8) hs hn (c := []) (fun z _ => VY z) (by omega) hv (by simpa using hf) fun s' w' h => ?_
  rw [List.append_nil] at h
  exact hR _ _ ⟨rfl, s', h⟩
theorem Aif (hrc : ∀ z, Sep w0 z As → RdB z.heap hc c) (hf : b.length + c.length ≤ n) : cal P Gt [.pointer (some ⟨g, 0, none⟩), hc] w (PkQ w0 As g n (b ++ c)) := by
  refine Pr fun R hR => ?_
  unfold Jd
  refine Af (putS (a := []) hs (fun z _ => VY z) hrc hn (by simpa using hf)) ?_
  rintro _ w' ⟨rfl, s', h⟩
  rw [List.append_nil] at h
  exact hR _ _ ⟨rfl, s', h⟩
theorem Aiw (hrc : ∀ z, Sep w0 z As → RdB z.heap hc c) (hf : b.length + 4 + c.length ≤ n) : cal P Gw [.pointer (some ⟨g, 0, none⟩), hc] w (PkQ w0 As g n (b ++ (be 4 c.length ++ c))) := by
  refine Pc fun R hR => ?_
  unfold Ja
  simp (disch := omega) only [fx, Nat.reduceAdd, forall_const, (hrc _ hs.tail.tail).len, K2]
  exact Xa (m := 4) hs hn hrc (by omega) (by omega) (by omega) fun s' w' h => hR _ _ ⟨rfl, s', h⟩
omit hn in
theorem OutS (hb : b.length ≤ 8192) : cal P HD [.pointer (some ⟨g, 0, none⟩)] w fun v w' => ∃ r, v = .tuple #[r, .int .i64 0] ∧ Sep w0 w' (ownB r b :: pk g s n :: ownB s b :: As) := by
  refine Sm fun R hR => ?_
  unfold KO
  have herr : cal P HE [.pointer (some ⟨g, 0, none⟩)] w fun v w' => v = .int .i64 0 ∧ w = w' := by
    refine SY fun R hR => ?_
    unfold Ku
    simp only [fx, Nat.reduceAdd, forall_const, EP hs.blk, Dc hs.blk, Cw hs.blk, CV hs.blk, CF hs.blk, C5 hs.blk]
    exact hR _ _ ⟨rfl, rfl⟩
  refine Af herr ?_
  rintro _ _ ⟨rfl, rfl⟩
  simp only [fx, Nat.reduceAdd, forall_const, EP hs.blk, Dc hs.blk, Cw hs.blk, CV hs.blk, CF hs.blk, C5 hs.blk, (Sep.rd hs.p1).len, show ((0 : Int) != 0) = false from rfl]
  refine Ad8 hs FL TL (by omega) fun g1 w1 hs1 => ?_
  simp only [fx, Nat.reduceAdd, forall_const, EP (Sep.p1 hs1).blk, Dc (Sep.p1 hs1).blk, Cw (Sep.p1 hs1).blk, CV (Sep.p1 hs1).blk, CF (Sep.p1 hs1).blk, C5 (Sep.p1 hs1).blk]
  refine Ais FL hs1 (Sep.rd hs1.p2) fun w2 hs2 => ?_
  have e1 : b.take (List.replicate b.length (0 : UInt8)).length ++ (List.replicate b.length (0 : UInt8)).drop b.length = b := by simp
  rw [e1] at hs2
  exact hR _ _ ⟨_, rfl, hs2⟩
end
end
end Go.Fx
namespace Go.Fx
section
variable {w0 w : World} {As : List Asn} {g n v : Nat} {s : Value} {a b c l : List UInt8} {e : Int}
theorem Ahc (hn : n ≤ 8) (hv : v < 18446744073709551616) : cal P Jx [.int .i64 n, .int .u64 v] w fun r w' => Sep w w' [ownB r (be n v)] := by
  refine Ab3 fun R hR => ?_
  unfold Tc
  refine Ad8 (Sep.start w) FL TL (by omega) fun g w1 hs => ?_
  simp (disch := omega) only [fx, Nat.reduceAdd, forall_const, wi64]
  refine ⟨fun a b w2 => ∃ i : Nat, i ≤ n ∧ a = .int .u64 ((v / 256 ^ i : Nat) : Int) ∧ b = .int .i64 ((n : Int) - 1 - i) ∧ Sep w w2 [ownB (.slice (some ⟨g, 0, none⟩) n n) (List.replicate (n - i) 0 ++ be i v)],
    fun _ b _ => (RowKit.intOf b + 1).toNat, ⟨0, by omega, by simp, by simp, by simpa [be] using hs⟩, ?_⟩
  rintro _ _ w2 ⟨i, hi, rfl, rfl, hs2⟩ -
  simp only [fx, Nat.reduceAdd, forall_const]
  rw [Aj]
  refine ⟨fun h => ?_, fun h => ?_⟩
  · have hlt : i < n := by simp at h; omega
    have hvi : v / 256 ^ i < 18446744073709551616 := Nat.lt_of_le_of_lt (Nat.div_le_self _ _) hv
    have e0 : (n : Int) - 1 - i = ((n - 1 - i : Nat) : Int) := by omega
    have e1 : ((v / 256 ^ i : Nat) : Int).tmod 256 = ((v / 256 ^ i % 256 : Nat) : Int) := tmodn _ 256
    have e2 : ((v / 256 ^ i : Nat) : Int).tdiv 256 = ((v / 256 ^ (i + 1) : Nat) : Int) := by
      rw [Nat.pow_succ, ← Nat.div_div_eq_div_mul]; exact tdivn _ 256
    rw [Nx _ _ _ _ (by omega), e1]
    simp only [Gs]
    rw [US _ (by omega), Int.toNat_natCast, e0]
    have e4 : UInt8.ofNat (v / 256 ^ i % 256) = UInt8.ofNat (v / 256 ^ i) := by
      apply UInt8.toNat_inj.1
      simp
    rw [e4]
    refine AfZ hs2 (by simp [Cg]; omega) _ fun w3 hs3 => ?_
    rw [Abo _ _ _ _ (by omega), e2]
    have hvi2 : v / 256 ^ (i + 1) < 18446744073709551616 := Nat.lt_of_le_of_lt (Nat.div_le_self _ _) hv
    rw [K2 (Int.natCast_nonneg _) (by omega), wi64 (by omega) (by omega)]
    refine ⟨⟨i + 1, by omega, rfl, by simp; omega, ?_⟩, by simp [RowKit.intOf]⟩
    have e3 : (List.replicate (n - i) (0 : UInt8) ++ be i v).set (n - 1 - i) (UInt8.ofNat (v / 256 ^ i)) = List.replicate (n - (i + 1)) 0 ++ be (i + 1) v := by
      rw [show n - i = (n - (i + 1)) + 1 by omega, List.replicate_succ', List.append_assoc, List.set_append_right _ _ (by simp; omega), NQ]
      congr 1
      rw [show n - 1 - i - (List.replicate (n - (i + 1)) (0 : UInt8)).length = 0 by simp; omega]
      rfl
    rw [← e3]
    exact hs3
  · have hlt : ¬ i < n := by simp at h; omega
    obtain rfl : i = n := by omega
    exact hR _ _ (by simpa using hs2)
end
end Go.Fx
namespace Go.Fx
theorem Sep.onL {w0 w : World} {As : List Asn} {A : Asn} (h : Sep w0 w As) (hm : A ∈ As) : ∃ F, A.on w.heap F := by
  obtain ⟨s, t, rfl⟩ := List.append_of_mem hm
  exact h.dropL.head
theorem Sep.put {w0 w : World} {α : Type} {f : α → Asn} {Xs T : List Asn} {L : List α} {s : α} (h : Sep w0 w (f s :: (Xs ++ (L.map f ++ T)))) : Sep w0 w (Xs ++ ((L ++ [s]).map f ++ T)) := by
  refine h.perm ?_
  rw [List.map_append, List.append_assoc, ← List.append_assoc, ← List.append_assoc]
  exact List.perm_middle.symm
theorem Sep.dropR {w0 w : World} {As Bs : List Asn} (h : Sep w0 w (As ++ Bs)) : Sep w0 w As := (h.perm List.perm_append_comm).dropL
theorem AF {S : World → Prop} {p v : Value} {K : Value → Prop} (hS : ∀ u, S u → ∀ K : Value → Prop, K v → ld1 p u.heap K) (hk : K v) : rdS S (fun w => ld1 p w.heap) K := ⟨v, fun u hu => hS u hu _ rfl, hk⟩
theorem Af0 {w0 z : World} {As : List Asn} {g n c : Nat} {a : Vec n} {T : TypeId} (h : Sep w0 z (blk g (Rdr.cells (rVec n) a).toArray T :: As)) : RdB z.heap (.slice (some ⟨g, 0, none⟩) n c) a.1 := by
  have hat : At z.heap g 0 (bvs a.1) := At.blk (cs := Rdr.cells (rVec n) a) h.blk
  have := At.rd (c := c) hat
  rwa [a.2] at this
theorem Wf {α β : Type} {s : Nat} {g : α → List β} (hg : ∀ a, (g a).length = s) : ∀ (l : List α) (k : Nat), (l.flatMap g).drop (k * s) = (l.drop k).flatMap g
  | [], k => by simp
  | b :: l, 0 => by simp
  | b :: l, k + 1 => by
    rw [List.drop_succ_cons, List.flatMap_cons, ← Wf hg l k, Nat.succ_mul, Nat.add_comm, ← List.drop_drop, List.drop_left' (hg b)]
theorem AB.take {α : Type} {q : Rdr α} {h : Heap} {a : Option Addr} {n c k : Nat} {l : List α} (hr : AB q h (.slice a n c) l) (hk : k ≤ l.length) (c' : Nat) : AB q h (.slice a k c') (l.take k) := by
  have hn : n = l.length := by obtain ⟨_, _, hv, _⟩ := hr; cases hv; rfl
  subst hn
  have := Cel.take (k := k) hr hk c'
  unfold AB
  rw [Ve q.len] at this
  rw [List.length_take, Nat.min_eq_left hk]
  exact this
theorem AB.drop {α : Type} {q : Rdr α} {h : Heap} {a : Option Addr} {n c k : Nat} {l : List α} (hr : AB q h (.slice a n c) l) (hk : k ≤ l.length) (hc : l.length ≤ c) (c' : Nat) : AB q h (.slice (if c = k then a else a.map (·.add (k * q.size))) (n - k) c') (l.drop k) := by
  have hn : n = l.length := by obtain ⟨_, _, hv, _⟩ := hr; cases hv; rfl
  subst hn
  have := Cel.drop (k := k) hr hk hc c'
  unfold AB
  rw [Wf q.len] at this
  rw [List.length_drop]
  exact this
end Go.Fx
namespace Go.Fx
abbrev W32 := BitVec 32
def wv (x : W32) : Value := .int .u32 (x.toNat : Int)
def wvs (l : List W32) : List Value := l.map wv
theorem Jm (x : W32) : BitVec.ofInt 32 (x.toNat : Int) = x := by
  apply BitVec.eq_of_toNat_eq
  rw [BitVec.toNat_ofInt]
  have := x.isLt
  omega
theorem Zx (x : W32) : IntKind.u32.wrap (x.toNat : Int) = (x.toNat : Int) := by
  have := x.isLt
  rw [Ahm (by omega) (by omega)]
section
variable (x y : W32) (K : Value → Prop)
theorem Dg : bi .add (wv x) (wv y) K = K (wv (x + y)) := by
  unfold wv
  rw [Vl, wu32, BitVec.toNat_add]
  have e : (((x.toNat + y.toNat) % 2 ^ 32 : Nat) : Int) = ((x.toNat : Int) + y.toNat) % 4294967296 := by omega
  rw [e]
theorem AfL : bi .mul (wv x) (.int .u32 256) K = K (wv (x * 256)) := by
  unfold wv
  rw [Qz, wu32, BitVec.toNat_mul]
  have e : (((x.toNat * (256 : W32).toNat) % 2 ^ 32 : Nat) : Int) = ((x.toNat : Int) * 256) % 4294967296 := by
    rw [show (256 : W32).toNat = 256 from rfl]
    omega
  rw [e]
theorem Df : bi .xor (wv x) (wv y) K = K (wv (x ^^^ y)) := by
  unfold wv
  rw [Aix]
  show K (.int .u32 (IntKind.u32.wrap ((BitVec.ofInt 32 (x.toNat : Int) ^^^ BitVec.ofInt 32 (y.toNat : Int)).toNat : Int))) = _
  rw [Jm, Jm, Zx]
theorem LP : bi .and (wv x) (wv y) K = K (wv (x &&& y)) := by
  unfold wv
  rw [Afn]
  show K (.int .u32 (IntKind.u32.wrap ((BitVec.ofInt 32 (x.toNat : Int) &&& BitVec.ofInt 32 (y.toNat : Int)).toNat : Int))) = _
  rw [Jm, Jm, Zx]
theorem U6 : bi .or (wv x) (wv y) K = K (wv (x ||| y)) := by
  unfold wv
  rw [AiY]
  show K (.int .u32 (IntKind.u32.wrap ((BitVec.ofInt 32 (x.toNat : Int) ||| BitVec.ofInt 32 (y.toNat : Int)).toNat : Int))) = _
  rw [Jm, Jm, Zx]
theorem Wg (k : IntKind) {n : Nat} (hn : n ≤ 32) : sh .shr (wv x) (.int k (n : Int)) K = K (wv (x >>> n)) := by
  unfold wv
  rw [Vr _ _ _ _ _ (by omega)]
  have h1 : min ((n : Int)).toNat IntKind.u32.bits = n := by show min n 32 = n; omega
  rw [h1, BitVec.toNat_ushiftRight, Nat.shiftRight_eq_div_pow]
  have h2 : ((2 : Int) ^ n) = ((2 ^ n : Nat) : Int) := by simp
  rw [h2, Int.ofNat_fdiv]
theorem Abz (k : IntKind) {n : Nat} (hn : n ≤ 32) : sh .shl (wv x) (.int k (n : Int)) K = K (wv (x <<< n)) := by
  unfold wv
  rw [Aik _ _ _ _ _ (by omega)]
  have h1 : min ((n : Int)).toNat IntKind.u32.bits = n := by show min n 32 = n; omega
  rw [h1, wu32, BitVec.toNat_shiftLeft, Nat.shiftLeft_eq, Int.natCast_emod, Int.natCast_mul, Int.natCast_pow]
  rfl
theorem AfA {w : World} {P : Program} : rdP P (Op.unary .xor (wv x)) w K = K (wv (~~~x)) := by
  refine DI ?_ K
  have e : BitVec.ofInt 32 (x.toNat : Int) = x := Jm x
  have h : (BitVec.ofInt 32 4294967295 ^^^ BitVec.ofInt 32 (x.toNat : Int)) = ~~~x := by
    rw [e, show BitVec.ofInt 32 4294967295 = BitVec.allOnes 32 from rfl, BitVec.allOnes_xor]
  have hr : (Op.unary .xor (wv x)).run P w = .ok (.int .u32 (IntKind.u32.wrap ((BitVec.ofInt 32 4294967295 ^^^ BitVec.ofInt 32 (x.toNat : Int)).toNat : Int))) w := rfl
  rw [hr, h, Zx]
  rfl
theorem wv_b (b : UInt8) : cvi .u32 (bv b) K = K (wv (BitVec.ofNat 32 b.toNat)) := by
  unfold wv bv
  have := b.toNat_lt
  rw [Gs, Ahm (by omega) (by omega), BitVec.toNat_ofNat, Nat.mod_eq_of_lt (by omega)]
theorem w_b : cvi .u8 (wv x) K = K (bv (UInt8.ofNat x.toNat)) := by
  unfold wv
  rw [Gs, US _ (by omega), Int.toNat_natCast]
end
end Go.Fx
namespace Go.Fx
def rotr (x : W32) (n : Nat) : W32 := x <<< (32 - n) ||| x >>> n
def VR (a b c d : UInt8) : W32 := BitVec.ofNat 32 (((a.toNat * 256 + b.toNat) * 256 + c.toNat) * 256 + d.toNat)
def wd (b : List UInt8) (t : Nat) : W32 := VR (b.getD (4 * t) 0) (b.getD (4 * t + 1) 0) (b.getD (4 * t + 2) 0) (b.getD (4 * t + 3) 0)
def bw (b : UInt8) : W32 := BitVec.ofNat 32 b.toNat
theorem Aej {a b n : Nat} (hb : b < 2 ^ n) : a * 2 ^ n ||| b = a * 2 ^ n + b := by
  rw [Nat.mul_comm, ← Nat.two_pow_add_eq_or_of_lt hb]
theorem Ae9 (b : UInt8) : (bw b).toNat = b.toNat := by
  have := b.toNat_lt
  unfold bw
  rw [BitVec.toNat_ofNat, Nat.mod_eq_of_lt (by omega)]
theorem AgI (a b c d : UInt8) : bw a <<< 24 ||| bw b <<< 16 ||| bw c <<< 8 ||| bw d = VR a b c d := by
  have ha := a.toNat_lt; have hb := b.toNat_lt; have hc := c.toNat_lt; have hd := d.toNat_lt
  apply BitVec.eq_of_toNat_eq
  unfold VR
  simp only [BitVec.toNat_or, BitVec.toNat_shiftLeft, Ae9, Nat.shiftLeft_eq, BitVec.toNat_ofNat]
  rw [Nat.mod_eq_of_lt (show a.toNat * 2 ^ 24 < 2 ^ 32 by omega), Nat.mod_eq_of_lt (show b.toNat * 2 ^ 16 < 2 ^ 32 by omega), Nat.mod_eq_of_lt (show c.toNat * 2 ^ 8 < 2 ^ 32 by omega), Nat.mod_eq_of_lt (show ((a.toNat * 256 + b.toNat) * 256 + c.toNat) * 256 + d.toNat < 2 ^ 32 by omega)]
  rw [Aej (show b.toNat * 2 ^ 16 < 2 ^ 24 by omega)]
  rw [show a.toNat * 2 ^ 24 + b.toNat * 2 ^ 16 = (a.toNat * 256 + b.toNat) * 2 ^ 16 by omega, Aej (show c.toNat * 2 ^ 8 < 2 ^ 16 by omega)]
  rw [show (a.toNat * 256 + b.toNat) * 2 ^ 16 + c.toNat * 2 ^ 8 = ((a.toNat * 256 + b.toNat) * 256 + c.toNat) * 2 ^ 8 by omega, Aej (show d.toNat < 2 ^ 8 by omega)]
theorem Aff (a b c d : UInt8) : (((0 * 256 + bw a) * 256 + bw b) * 256 + bw c) * 256 + bw d = VR a b c d := by
  apply BitVec.eq_of_toNat_eq
  unfold VR
  simp only [BitVec.toNat_add, BitVec.toNat_mul, Ae9, BitVec.toNat_ofNat]
  have h0 : (0 : W32).toNat = 0 := rfl
  have h1 : (256 : W32).toNat = 256 := rfl
  rw [h0, h1]
  omega
def sg0 (x : W32) : W32 := rotr x 7 ^^^ rotr x 18 ^^^ x >>> 3
def sg1 (y : W32) : W32 := rotr y 17 ^^^ rotr y 19 ^^^ y >>> 10
def UY (b : List UInt8) (w : List W32) (t : Nat) : W32 := if t < 16 then wd b t else sg1 (w.getD (t - 2) 0) + w.getD (t - 7) 0 + sg0 (w.getD (t - 15) 0) + w.getD (t - 16) 0
def sch (b : List UInt8) : Nat → List W32
  | 0 => List.replicate 64 0
  | t + 1 => (sch b t).set t (UY b (sch b t) t)
theorem Ld (b : List UInt8) : ∀ t, (sch b t).length = 64
  | 0 => List.length_replicate
  | t + 1 => by rw [sch, List.length_set, Ld b t]
theorem AaG (b : List UInt8) : ∀ t j, t ≤ j → (sch b t).getD j 0 = 0
  | 0, j, _ => by
    unfold sch
    rw [List.getD_eq_getElem?_getD, List.getElem?_replicate]
    split <;> rfl
  | t + 1, j, h => by
    have := AaG b t j (by omega)
    rw [sch, List.getD_eq_getElem?_getD, List.getElem?_set_ne (by omega), ← List.getD_eq_getElem?_getD]
    exact this
def HU : List W32 := [0x428a2f98, 0x71374491, 0xb5c0fbcf, 0xe9b5dba5, 0x3956c25b, 0x59f111f1, 0x923f82a4, 0xab1c5ed5, 0xd807aa98, 0x12835b01, 0x243185be, 0x550c7dc3, 0x72be5d74, 0x80deb1fe, 0x9bdc06a7, 0xc19bf174, 0xe49b69c1, 0xefbe4786, 0x0fc19dc6, 0x240ca1cc, 0x2de92c6f, 0x4a7484aa, 0x5cb0a9dc, 0x76f988da, 0x983e5152, 0xa831c66d, 0xb00327c8, 0xbf597fc7, 0xc6e00bf3, 0xd5a79147, 0x06ca6351, 0x14292967, 0x27b70a85, 0x2e1b2138, 0x4d2c6dfc, 0x53380d13, 0x650a7354, 0x766a0abb, 0x81c2c92e, 0x92722c85, 0xa2bfe8a1, 0xa81a664b, 0xc24b8b70, 0xc76c51a3, 0xd192e819, 0xd6990624, 0xf40e3585, 0x106aa070, 0x19a4c116, 0x1e376c08, 0x2748774c, 0x34b0bcb5, 0x391c0cb3, 0x4ed8aa4a, 0x5b9cca4f, 0x682e6ff3, 0x748f82ee, 0x78a5636f, 0x84c87814, 0x8cc70208, 0x90befffa, 0xa4506ceb, 0xbef9a3f7, 0xc67178f2]
def G0 : List W32 := [0x6a09e667, 0xbb67ae85, 0x3c6ef372, 0xa54ff53a, 0x510e527f, 0x9b05688c, 0x1f83d9ab, 0x5be0cd19]
def t1M (k w e v5 v6 v7 : W32) : W32 := v7 + (rotr e 6 ^^^ rotr e 11 ^^^ rotr e 25) + ((e &&& v5) ^^^ (~~~e &&& v6)) + k + w
def t2M (a v1 v2 : W32) : W32 := (rotr a 2 ^^^ rotr a 13 ^^^ rotr a 22) + ((a &&& v1) ^^^ (a &&& v2) ^^^ (v1 &&& v2))
def rnd (k w : W32) (v : List W32) : List W32 :=
  let t1 := t1M k w (v.getD 4 0) (v.getD 5 0) (v.getD 6 0) (v.getD 7 0)
  [t1 + t2M (v.getD 0 0) (v.getD 1 0) (v.getD 2 0), v.getD 0 0, v.getD 1 0, v.getD 2 0, v.getD 3 0 + t1, v.getD 4 0, v.getD 5 0, v.getD 6 0]
def rns (b : List UInt8) (h : List W32) : Nat → List W32
  | 0 => h
  | t + 1 => rnd (HU.getD t 0) ((sch b 64).getD t 0) (rns b h t)
theorem Xb (b : List UInt8) {h : List W32} (hh : h.length = 8) : ∀ t, (rns b h t).length = 8
  | 0 => hh
  | t + 1 => rfl
def mixM (h : List W32) (b : List UInt8) : List W32 := List.zipWith (· + ·) h (rns b h 64)
theorem N8 (b : List UInt8) {h : List W32} (hh : h.length = 8) : (mixM h b).length = 8 := by
  unfold mixM
  rw [List.length_zipWith, Xb b hh, hh]
  rfl
def D1 (h : List W32) (l : List UInt8) : List W32 := if 64 ≤ l.length then D1 (mixM h (l.take 64)) (l.drop 64) else h
  termination_by l.length
  decreasing_by simp; omega
theorem FV {h : List W32} {l : List UInt8} (hl : 64 ≤ l.length) : D1 h l = D1 (mixM h (l.take 64)) (l.drop 64) := by rw [D1, if_pos hl]
theorem GL {h : List W32} {l : List UInt8} (hl : ¬ 64 ≤ l.length) : D1 h l = h := by rw [D1, if_neg hl]
theorem Afj {l : List UInt8} : ∀ {h : List W32}, h.length = 8 → (D1 h l).length = 8 := by
  induction hn : l.length using Nat.strongRecOn generalizing l with
  | ind n ih =>
    intro h hh
    by_cases hl : 64 ≤ l.length
    · rw [FV hl]
      exact ih _ (by simp; omega) rfl (N8 _ hh)
    · rw [GL hl]; exact hh
theorem X9 {a b : List UInt8} (ha : a.length % 64 = 0) : ∀ {h : List W32}, D1 h (a ++ b) = D1 (D1 h a) b := by
  induction hn : a.length using Nat.strongRecOn generalizing a with
  | ind n ih =>
    intro h
    by_cases hl : 64 ≤ a.length
    · rw [FV hl, FV (by rw [List.length_append]; omega), List.take_append_of_le_length hl, List.drop_append_of_le_length hl]
      exact ih _ (by simp; omega) (by simp; omega) rfl
    · have : a = [] := List.eq_nil_of_length_eq_zero (by omega)
      subst this
      rw [GL hl, List.nil_append]
def zer (m : Nat) : Nat := (120 - m % 64) % 64
theorem Ae7 {m j : Nat} (h : j < zer m) : (m + j) % 64 ≠ 56 := by unfold zer at h; omega
theorem ZI (m : Nat) : (m + zer m) % 64 = 56 := by unfold zer; omega
theorem AbF (m : Nat) : zer m < 64 := by unfold zer; omega
def padT (r : List UInt8) (n : Nat) : List UInt8 := r ++ [128] ++ List.replicate (zer (r.length + 1)) 0 ++ be 8 (n * 8 % 18446744073709551616)
theorem ZY (r : List UInt8) (n : Nat) : (padT r n).length % 64 = 0 := by
  unfold padT
  simp only [List.length_append, List.length_replicate, List.length_singleton, Cg]
  have := ZI (r.length + 1)
  omega
theorem Ag5 (a r : List UInt8) (n : Nat) (ha : a.length % 64 = 0) : padT (a ++ r) n = a ++ padT r n := by
  unfold padT
  have : zer ((a ++ r).length + 1) = zer (r.length + 1) := by unfold zer; rw [List.length_append]; omega
  rw [this]
  simp
def shaL (l : List UInt8) : List W32 := D1 G0 (padT l l.length)
theorem AgC (l : List UInt8) : (shaL l).length = 8 := Afj rfl
def wOut (x : W32) : List UInt8 := [UInt8.ofNat (x >>> 24).toNat, UInt8.ofNat (x >>> 16).toNat, UInt8.ofNat (x >>> 8).toNat, UInt8.ofNat x.toNat]
theorem UD (h : List W32) : (h.flatMap wOut).length = 4 * h.length := by
  induction h with
  | nil => rfl
  | cons x h ih => rw [List.flatMap_cons, List.length_append, ih]; simp [wOut]; omega
def shaM (l : List UInt8) : Vec 32 := ⟨(shaL l).flatMap wOut, by rw [UD, AgC]⟩
end Go.Fx
namespace Go.Fx
abbrev wa (g : Nat) (l : List W32) (T : TypeId) : Asn := blk g (wvs l).toArray T
theorem WM {l : List W32} {i : Nat} (hi : i < l.length) : (wvs l)[i]? = some (wv (l.getD i 0)) := by
  simp [wvs, List.getD_eq_getElem?_getD, List.getElem?_eq_getElem hi]
theorem Xr (l : List W32) : ∀ u ∈ wvs l, u.oneCell' = true := by
  intro u hu
  obtain ⟨x, _, rfl⟩ := List.mem_map.1 hu
  rfl
theorem AeP (x : W32) (j : IntKind) (m : Int) (h0 : 0 ≤ m) (h1 : m ≤ 32) (K : Value → Prop) : sh .shl (wv x) (.int j m) K = K (wv (x <<< m.toNat)) := by
  obtain ⟨n, rfl⟩ := Int.eq_ofNat_of_zero_le h0
  exact Abz x K j (by omega)
theorem Oe (x : W32) (j : IntKind) (m : Int) (h0 : 0 ≤ m) (h1 : m ≤ 32) (K : Value → Prop) : sh .shr (wv x) (.int j m) K = K (wv (x >>> m.toNat)) := by
  obtain ⟨n, rfl⟩ := Int.eq_ofNat_of_zero_le h0
  exact Wg x K j (by omega)
section
variable {w0 w : World} {g : Nat} {l : List W32} {t : TypeId} {fr : Nat × Nat} {h : Heap} {As : List Asn}
theorem ld_w (hg : h[g]? = some (.cells (wvs l).toArray t fr)) {i : Nat} (hi : i < l.length) (K : Value → Prop) : ld1 (.pointer (some ⟨g, i, none⟩)) h K = K (wv (l.getD i 0)) := by
  rw [Rc hg, List.getElem?_toArray, WM hi]
  exact CW _ K
theorem FW (hg : h[g]? = some (.cells (wvs l).toArray t fr)) {n : Nat} (hn : l.length = n) (K : Value → Prop) : ldN n (.pointer (some ⟨g, 0, none⟩)) h K = K (.agg (wvs l).toArray) := by
  have hl : (wvs l).length = n := by simp [wvs, hn]
  rw [AfU hg]
  have e : (wvs l).toArray.extract 0 (0 + n) = (wvs l).toArray := by
    apply Array.ext'
    simp [← hl]
  rw [e]
  exact propext ⟨fun h => h.2, fun h => ⟨by simp [hl], h⟩⟩
theorem st_w {K : World → Prop} (hs : Sep w0 w (wa g l t :: As)) {i : Nat} (hi : i < l.length) (x : W32) (h : ∀ w', Sep w0 w' (wa g (l.set i x) t :: As) → K w') : st1 (.pointer (some ⟨g, i, none⟩)) (wv x) w K := by
  refine Ib hs (by simpa [wvs] using hi) rfl fun w' hs' => h w' ?_
  have e : (wvs l).toArray.setIfInBounds i (wv x) = (wvs (l.set i x)).toArray := by
    apply Array.ext'
    simp [wvs, List.map_set]
  rw [e] at hs'
  exact hs'
theorem Fq {K : World → Prop} {n : Nat} {l' : List W32} (hs : Sep w0 w (wa g l t :: As)) (hl : l.length = n) (hl' : l'.length = n) (h : ∀ w', Sep w0 w' (wa g l' t :: As) → K w') :
    stN n (.pointer (some ⟨g, 0, none⟩)) (.agg (wvs l').toArray) w K := by
  refine Ahg hs (by simp [wvs, hl']) (by simp [wvs, hl]) (by simpa using Xr l') fun w' hs' => h w' ?_
  have e : splice (wvs l).toArray 0 (wvs l').toArray.toList = (wvs l').toArray := by
    apply Array.ext'
    simp [splice, wvs, hl', ← hl]
  rw [e] at hs'
  exact hs'
theorem Fs {n : Nat} (k : IntKind) (i : Int) (h0 : 0 ≤ i) (hi : i < n) (K : Value → Prop) : ixa n 1 (.pointer (some ⟨g, 0, none⟩)) (.int k i) K = K (.pointer (some ⟨g, i.toNat, none⟩)) := by
  rw [AfH _ _ _ _ _ _ _ h0 hi, Nat.zero_add, Nat.mul_one]
theorem Ahd {n i : Nat} (k : IntKind) (hl : l.length = n) (hi : i < n) (K : Value → Prop) : ixv n 1 false (.agg (wvs l).toArray) (.int k (i : Int)) K = K (wv (l.getD i 0)) := by
  refine propext ⟨fun ⟨cs, k', j, h1, h2, h3, h4, h5⟩ => ?_, fun h => ⟨_, _, _, rfl, rfl, by omega, by omega, ?_⟩⟩
  · cases h1; cases h2
    obtain ⟨v, hv, hk⟩ := (show ∃ v, _ ∧ _ from h5)
    rw [Int.toNat_natCast, Nat.mul_one, List.getElem?_toArray, WM (by omega)] at hv
    cases hv
    exact hk
  · show ∃ v, _ ∧ _
    exact ⟨_, by rw [Int.toNat_natCast, Nat.mul_one, List.getElem?_toArray, WM (by omega)], h⟩
theorem Ow (w : World) : (Instr.alloc Bn true (.tuple #[])).run P w = .ok (.pointer (some ⟨w.heap.size, 0, none⟩)) (w.alloc (.cells (wvs (List.replicate 64 0)).toArray Bn)) := by kernel_rfl
theorem A_a8 (w : World) : (Instr.alloc Bc true (.tuple #[])).run P w = .ok (.pointer (some ⟨w.heap.size, 0, none⟩)) (w.alloc (.cells (wvs (List.replicate 8 0)).toArray Bc)) := by kernel_rfl
theorem Fe {x : W32} (m : Int) (n : Nat) (hn : n ≤ 32) (hk : IntKind.u64.wrap ((BitVec.ofInt IntKind.u64.bits (IntKind.u64.wrap m) &&& BitVec.ofInt IntKind.u64.bits 31).toNat : Int) = ((32 - n : Nat) : Int)) :
    cal P Bt [wv x, .int .i64 m] w fun r w' => r = wv (rotr x n) ∧ w = w' := by
  refine Ly fun R hR => ?_
  unfold G9
  rw [Gs, Afn, hk, Abz x _ .u64 (by omega), Ru]
  have e : IntKind.u64.wrap (32 - ((32 - n : Nat) : Int)) = (n : Int) := by rw [K2 (by omega) (by omega)]; omega
  rw [e, Wg x _ .u64 hn, U6]
  exact hR _ _ ⟨rfl, rfl⟩
theorem DB {x : W32} (m : Int) (n : Nat) (hm : m = n) (hn : n ≤ 32) : cal P Cm [wv x, .int .u64 m] w fun r w' => r = wv (rotr x n) ∧ w = w' := by
  subst hm
  refine Xz fun R hR => ?_
  unfold NB
  rw [Wg x _ .u64 hn, Ru]
  have e : IntKind.u64.wrap (32 - (n : Int)) = ((32 - n : Nat) : Int) := by rw [K2 (by omega) (by omega)]; omega
  rw [e, Abz x _ .u64 (by omega), U6, BitVec.or_comm]
  exact hR _ _ ⟨rfl, rfl⟩
end
end Go.Fx
namespace Go.Fx
section
variable {w0 w : World} {b : Value} {l : List UInt8}
theorem NC {l : List UInt8} {i : Nat} (h : i < l.length) : l[i] = l.getD i 0 := by simp [List.getD_eq_getElem?_getD, List.getElem?_eq_getElem h]
theorem Zj (hb : RdB w.heap b l) (hl : l.length = 64) : cal P Jv [b] w fun r w' => r = .agg (wvs (sch l 64)).toArray ∧ Fr [] w w' := by
  refine Xe fun R hR => ?_
  unfold Nn
  refine Av (Sep.start w) (Ow w) fun g2 w2 hs => ?_
  refine Av hs (Ow w2) fun g3 w3 hs => ?_
  refine ⟨fun a w' => ∃ t : Nat, a = .int .i64 t ∧ t ≤ 64 ∧ Sep w w' [wa g3 (sch l t) Bn, wa g2 (List.replicate 64 0) Bn], fun z _ => (64 - RowKit.intOf z).toNat, ⟨0, rfl, by omega, hs⟩, ?_⟩
  rintro _ w4 ⟨t, rfl, ht, hs4⟩ -
  simp only [fx, Nat.reduceAdd, forall_const]
  have hlen := Ld l t
  rw [Aj]
  refine ⟨fun h => ?_, fun h => ?_⟩
  · have h64 : t < 64 := by simp at h; omega
    refine ⟨fun w' => Sep w w' [wa g3 (sch l (t + 1)) Bn, wa g2 (List.replicate 64 0) Bn], ?_, ?_⟩
    · change cnd _ _ _
      rw [Aj]
      refine ⟨fun h => ?_, fun h => ?_⟩
      · have h16 : t < 16 := by simp at h; omega
        refine Hi hs4 fun w5 hs5 _ => ?_
        have hb5 := hs5.rdB hb
        have e0 : IntKind.i64.wrap (4 * (t : Int)) = ((4 * t : Nat) : Int) := by rw [wi64 (by omega) (by omega)]; omega
        have e1 : IntKind.i64.wrap (((4 * t : Nat) : Int) + 1) = ((4 * t + 1 : Nat) : Int) := by rw [wi64 (by omega) (by omega)]; omega
        have e2 : IntKind.i64.wrap (((4 * t : Nat) : Int) + 2) = ((4 * t + 2 : Nat) : Int) := by rw [wi64 (by omega) (by omega)]; omega
        have e3 : IntKind.i64.wrap (((4 * t : Nat) : Int) + 3) = ((4 * t + 3 : Nat) : Int) := by rw [wi64 (by omega) (by omega)]; omega
        simp only [Fz, e0, e1, e2, e3]
        refine ldxB hb5 (by omega) ?_
        rw [wv_b, AeP _ .u64 24 (by decide) (by decide)]
        refine ldxB hb5 (by omega) ?_
        rw [wv_b, AeP _ .u64 16 (by decide) (by decide), U6]
        refine ldxB hb5 (by omega) ?_
        rw [wv_b, AeP _ .u64 8 (by decide) (by decide), U6]
        refine ldxB hb5 (by omega) ?_
        rw [wv_b, U6, Cv .i64 h64]
        refine Dd (st_w hs5 (by omega) _ fun w6 hs6 => ?_)
        rw [sch, UY, if_pos h16, wd, ← AgI, ← NC (by omega), ← NC (by omega), ← NC (by omega), ← NC (by omega)]
        exact hs6
      · have h16 : ¬ t < 16 := by simp at h; omega
        refine CT hs4 fun w5 hs5 _ => ?_
        have e15 : IntKind.i64.wrap ((t : Int) - 15) = ((t - 15 : Nat) : Int) := by rw [wi64 (by omega) (by omega)]; omega
        have e2 : IntKind.i64.wrap ((t : Int) - 2) = ((t - 2 : Nat) : Int) := by rw [wi64 (by omega) (by omega)]; omega
        have e7 : IntKind.i64.wrap ((t : Int) - 7) = ((t - 7 : Nat) : Int) := by rw [wi64 (by omega) (by omega)]; omega
        have e16 : IntKind.i64.wrap ((t : Int) - 16) = ((t - 16 : Nat) : Int) := by rw [wi64 (by omega) (by omega)]; omega
        rw [e15, Cv .i64 (by omega), ld_w hs5.blk (by omega), e2, Cv .i64 (by omega), ld_w hs5.blk (by omega)]
        refine Af (Fe (-7) 7 (by decide) (by decide)) ?_
        rintro _ _ ⟨rfl, rfl⟩
        refine Af (Fe (-18) 18 (by decide) (by decide)) ?_
        rintro _ _ ⟨rfl, rfl⟩
        rw [Df, Oe _ .u64 3 (by decide) (by decide), Df]
        refine Af (Fe (-17) 17 (by decide) (by decide)) ?_
        rintro _ _ ⟨rfl, rfl⟩
        refine Af (Fe (-19) 19 (by decide) (by decide)) ?_
        rintro _ _ ⟨rfl, rfl⟩
        rw [Df, Oe _ .u64 10 (by decide) (by decide), Df]
        refine Hi hs5 fun w6 hs6 _ => ?_
        simp only [Fz, e7, e16]
        rw [Cv .i64 (by omega), ld_w hs6.blk (by omega), Dg, Dg, Cv .i64 (by omega), ld_w hs6.blk (by omega), Dg, Cv .i64 h64]
        refine Dd (st_w hs6 (by omega) _ fun w7 hs7 => ?_)
        rw [sch, UY, if_neg h16]
        exact hs7
    · intro w5 hs5 _
      rw [wi64 (by omega) (by omega)]
      exact ⟨⟨t + 1, by simp, by omega, hs5⟩, by simp [RowKit.intOf]; omega⟩
  · have h64 : t = 64 := by simp at h; omega
    subst h64
    rw [FW hs4.blk hlen]
    refine Fq hs4.p1 (by simp) hlen fun w5 hs5 => ?_
    rw [FW hs5.blk hlen]
    exact hR _ _ ⟨rfl, hs5.fr0⟩
theorem Aeg (hb : RdB w.heap b l) (hl : l.length = 64) : cal P Ke [b] w fun r w' => r = .agg (wvs (sch l 64)).toArray ∧ Fr [] w w' := by
  refine Za fun R hR => ?_
  unfold O0
  refine Av (Sep.start w) (Ow w) fun g2 w2 hs => ?_
  refine Av hs (Ow w2) fun g3 w3 hs => ?_
  refine ⟨fun a w' => ∃ t : Nat, a = .int .i64 t ∧ t ≤ 16 ∧ Sep w w' [wa g3 (sch l t) Bn, wa g2 (List.replicate 64 0) Bn], fun z _ => (16 - RowKit.intOf z).toNat, ⟨0, rfl, by omega, hs⟩, ?_⟩
  rintro _ w4 ⟨t, rfl, ht, hs4⟩ -
  simp only [fx, Nat.reduceAdd, forall_const]
  have hlen := Ld l t
  rw [Aj]
  refine ⟨fun h => ?_, fun h => ?_⟩
  · have h16 : t < 16 := by simp at h; omega
    obtain ⟨part, hp⟩ : ∃ part : Nat → W32, part = fun i => ((l.drop (4 * t)).take i).foldl (fun v b => v * 256 + bw b) 0 := ⟨_, rfl⟩
    have hp0 : part 0 = 0 := by rw [hp]; rfl
    have hps : ∀ i, i < 4 → part (i + 1) = part i * 256 + bw (l.getD (4 * t + i) 0) := fun i hi => by
      have hlt : i < (l.drop (4 * t)).length := by simp; omega
      rw [hp]
      simp only []
      rw [List.take_add_one, List.getElem?_eq_getElem hlt, List.foldl_append]
      simp [List.getD_eq_getElem?_getD, List.getElem?_eq_getElem (show 4 * t + i < l.length by omega)]
    have hp4 : part 4 = wd l t := by
      rw [hps 3 (by omega), hps 2 (by omega), hps 1 (by omega), hps 0 (by omega), hp0, Aff]
      rfl
    refine ⟨fun a w' => ∃ i : Nat, a = .int .i64 i ∧ i ≤ 4 ∧ Sep w w' [wa g3 ((sch l t).set t (part i)) Bn, wa g2 (List.replicate 64 0) Bn], fun z _ => (4 - RowKit.intOf z).toNat, ⟨0, rfl, by omega, ?_⟩, ?_⟩
    · have e : (sch l t).set t (part 0) = sch l t := by
        rw [hp0]
        apply List.ext_getElem?
        intro j
        by_cases hj : t = j
        · subst hj
          have := AaG l t t (Nat.le_refl _)
          rw [List.getD_eq_getElem?_getD, List.getElem?_eq_getElem (by omega)] at this
          rw [List.getElem?_set_self (by omega), List.getElem?_eq_getElem (by omega)]
          simpa using this.symm
        · rw [List.getElem?_set_ne hj]
      rw [e]
      exact hs4
    rintro _ w5 ⟨i, rfl, hi, hs5⟩ -
    simp only [fx, Nat.reduceAdd, forall_const]
    rw [Aj]
    refine ⟨fun h => ?_, fun h => ?_⟩
    · have h4 : i < 4 := by simp at h; omega
      refine Hi hs5 fun w6 hs6 _ => ?_
      have e0 : IntKind.i64.wrap (4 * (t : Int)) = ((4 * t : Nat) : Int) := by rw [wi64 (by omega) (by omega)]; omega
      have e1 : IntKind.i64.wrap (((4 * t : Nat) : Int) + (i : Int)) = ((4 * t + i : Nat) : Int) := by rw [wi64 (by omega) (by omega)]; omega
      simp only [Fz, e0, e1]
      rw [Cv .i64 (by omega), ld_w hs6.blk (by simp; omega), AfL]
      refine ldxB (hs6.rdB hb) (by omega) ?_
      rw [wv_b, Dg, Cv .i64 (by omega)]
      refine Dd (st_w hs6 (by simp; omega) _ fun w7 hs7 => ?_)
      rw [wi64 (by omega) (by omega)]
      refine ⟨⟨i + 1, by simp, by omega, ?_⟩, by simp [RowKit.intOf]; omega⟩
      rw [List.set_set] at hs7
      have e : ((sch l t).set t (part i)).getD t 0 = part i := by rw [List.getD_eq_getElem?_getD, List.getElem?_set_self (by omega)]; rfl
      rw [e, NC (by omega)] at hs7
      rw [hps i h4]
      exact hs7
    · have h4 : i = 4 := by simp at h; omega
      subst h4
      rw [wi64 (by omega) (by omega)]
      rw [hp4] at hs5
      refine ⟨⟨t + 1, by simp, by omega, ?_⟩, by simp [RowKit.intOf]; omega⟩
      rw [sch, UY, if_pos h16]
      exact hs5
  · have h16 : t = 16 := by simp at h; omega
    subst h16
    refine ⟨fun a w' => ∃ t : Nat, a = .int .i64 t ∧ 16 ≤ t ∧ t ≤ 64 ∧ Sep w w' [wa g3 (sch l t) Bn, wa g2 (List.replicate 64 0) Bn], fun z _ => (64 - RowKit.intOf z).toNat, ⟨16, rfl, by omega, by omega, hs4⟩, ?_⟩
    rintro _ w5 ⟨t, rfl, ht1, ht2, hs5⟩ -
    simp only [fx, Nat.reduceAdd, forall_const]
    have hlen := Ld l t
    rw [Aj]
    refine ⟨fun h => ?_, fun h => ?_⟩
    · have h64 : t < 64 := by simp at h; omega
      have e15 : IntKind.i64.wrap ((t : Int) - 15) = ((t - 15 : Nat) : Int) := by rw [wi64 (by omega) (by omega)]; omega
      have e2 : IntKind.i64.wrap ((t : Int) - 2) = ((t - 2 : Nat) : Int) := by rw [wi64 (by omega) (by omega)]; omega
      have e7 : IntKind.i64.wrap ((t : Int) - 7) = ((t - 7 : Nat) : Int) := by rw [wi64 (by omega) (by omega)]; omega
      have e16 : IntKind.i64.wrap ((t : Int) - 16) = ((t - 16 : Nat) : Int) := by rw [wi64 (by omega) (by omega)]; omega
      rw [e15, Cv .i64 (by omega), ld_w hs5.blk (by omega), e2, Cv .i64 (by omega), ld_w hs5.blk (by omega)]
      refine Af (DB 7 7 rfl (by decide)) ?_
      rintro _ _ ⟨rfl, rfl⟩
      refine Af (DB 18 18 rfl (by decide)) ?_
      rintro _ _ ⟨rfl, rfl⟩
      rw [Df, Oe _ .u64 3 (by decide) (by decide), Df]
      refine Af (DB 17 17 rfl (by decide)) ?_
      rintro _ _ ⟨rfl, rfl⟩
      refine Af (DB 19 19 rfl (by decide)) ?_
      rintro _ _ ⟨rfl, rfl⟩
      rw [Df, Oe _ .u64 10 (by decide) (by decide), Df]
      refine Hi hs5 fun w6 hs6 _ => ?_
      simp only [Fz, e7, e16]
      rw [Cv .i64 (by omega), ld_w hs6.blk (by omega), Dg, Dg, Cv .i64 (by omega), ld_w hs6.blk (by omega), Dg, Cv .i64 h64]
      refine Dd (st_w hs6 (by omega) _ fun w7 hs7 => ?_)
      rw [wi64 (by omega) (by omega)]
      refine ⟨⟨t + 1, by simp, by omega, by omega, ?_⟩, by simp [RowKit.intOf]; omega⟩
      rw [sch, UY, if_neg (by omega)]
      exact hs7
    · have h64 : t = 64 := by simp at h; omega
      subst h64
      rw [FW hs5.blk hlen]
      refine Fq hs5.p1 (by simp) hlen fun w6 hs6 => ?_
      rw [FW hs6.blk hlen]
      exact hR _ _ ⟨rfl, hs6.fr0⟩
end
end Go.Fx
namespace Go.Fx
def Cub (w : World) : Prop := ∃ t fr, w.heap[0]? = some (.cells (wvs HU).toArray t fr)
theorem Cub.fr {w w' : World} (h : Cub w) (hf : Fr [] w w') : Cub w' := by
  obtain ⟨t, fr, h⟩ := h
  exact ⟨t, fr, hf.blk h (by simp)⟩
section
variable {w0 w : World} {b : Value} {l : List UInt8} {h : List W32}
theorem B_a8 (a0 a1 a2 a3 a4 a5 a6 a7 : W32) (K : Value → Prop) : rdP P (Instr.build Bc #[(0, wv a0), (1, wv a1), (2, wv a2), (3, wv a3), (4, wv a4), (5, wv a5), (6, wv a6), (7, wv a7)]) w K = K (.agg (wvs [a0, a1, a2, a3, a4, a5, a6, a7]).toArray) := DI (by kernel_rfl) K
theorem Ahx (K : Value → Prop) : rdP P (Instr.build Bn #[(0, (Value.int IntKind.u32 1116352408)), (1, (Value.int IntKind.u32 1899447441)), (2, (Value.int IntKind.u32 3049323471)), (3, (Value.int IntKind.u32 3921009573)), (4, (Value.int IntKind.u32 961987163)), (5, (Value.int IntKind.u32 1508970993)), (6, (Value.int IntKind.u32 2453635748)), (7, (Value.int IntKind.u32 2870763221)), (8, (Value.int IntKind.u32 3624381080)), (9, (Value.int IntKind.u32 310598401)), (10, (Value.int IntKind.u32 607225278)), (11, (Value.int IntKind.u32 1426881987)), (12, (Value.int IntKind.u32 1925078388)), (13, (Value.int IntKind.u32 2162078206)), (14, (Value.int IntKind.u32 2614888103)), (15, (Value.int IntKind.u32 3248222580)), (16, (Value.int IntKind.u32 3835390401)), (17, (Value.int IntKind.u32 4022224774)), (18, (Value.int IntKind.u32 264347078)), (19, (Value.int IntKind.u32 604807628)), (20, (Value.int IntKind.u32 770255983)), (21, (Value.int IntKind.u32 1249150122)), (22, (Value.int IntKind.u32 1555081692)), (23, (Value.int IntKind.u32 1996064986)), (24, (Value.int IntKind.u32 2554220882)), (25, (Value.int IntKind.u32 2821834349)), (26, (Value.int IntKind.u32 2952996808)), (27, (Value.int IntKind.u32 3210313671)), (28, (Value.int IntKind.u32 3336571891)), (29, (Value.int IntKind.u32 3584528711)), (30, (Value.int IntKind.u32 113926993)), (31, (Value.int IntKind.u32 338241895)), (32, (Value.int IntKind.u32 666307205)), (33, (Value.int IntKind.u32 773529912)), (34, (Value.int IntKind.u32 1294757372)), (35, (Value.int IntKind.u32 1396182291)), (36, (Value.int IntKind.u32 1695183700)), (37, (Value.int IntKind.u32 1986661051)), (38, (Value.int IntKind.u32 2177026350)), (39, (Value.int IntKind.u32 2456956037)), (40, (Value.int IntKind.u32 2730485921)), (41, (Value.int IntKind.u32 2820302411)), (42, (Value.int IntKind.u32 3259730800)), (43, (Value.int IntKind.u32 3345764771)), (44, (Value.int IntKind.u32 3516065817)), (45, (Value.int IntKind.u32 3600352804)), (46, (Value.int IntKind.u32 4094571909)), (47, (Value.int IntKind.u32 275423344)), (48, (Value.int IntKind.u32 430227734)), (49, (Value.int IntKind.u32 506948616)), (50, (Value.int IntKind.u32 659060556)), (51, (Value.int IntKind.u32 883997877)), (52, (Value.int IntKind.u32 958139571)), (53, (Value.int IntKind.u32 1322822218)), (54, (Value.int IntKind.u32 1537002063)), (55, (Value.int IntKind.u32 1747873779)), (56, (Value.int IntKind.u32 1955562222)), (57, (Value.int IntKind.u32 2024104815)), (58, (Value.int IntKind.u32 2227730452)), (59, (Value.int IntKind.u32 2361852424)), (60, (Value.int IntKind.u32 2428436474)), (61, (Value.int IntKind.u32 2756734187)), (62, (Value.int IntKind.u32 3204031479)), (63, (Value.int IntKind.u32 3329325298))]) w K = K (.agg (wvs HU).toArray) := DI (by kernel_rfl) K
theorem Xf : cal P HH [] w fun r w' => r = .agg (wvs HU).toArray ∧ Fr [] w w' := by
  refine SO fun R hR => ?_
  unfold KI
  refine Av (Sep.start w) (Ow w) fun g w1 hs => ?_
  rw [Ahx]
  refine Fq hs (by simp) rfl fun w2 hs => ?_
  rw [FW (n := 64) hs.blk rfl]
  exact hR _ _ ⟨rfl, hs.fr0⟩
def hz (h v : List W32) (i : Nat) : List W32 := (List.zipWith (· + ·) h v).take i ++ h.drop i
theorem Ac5 (h v : List W32) : hz h v 0 = h := by simp [hz]
theorem AfM {h v : List W32} (hh : h.length = 8) (hv : v.length = 8) {i : Nat} (hi : i ≤ 8) : (hz h v i).length = 8 := by simp [hz, hh, hv]; omega
theorem Af3 {h v : List W32} (hh : h.length = 8) (hv : v.length = 8) {i : Nat} (hi : i < 8) : (hz h v i).getD i 0 = h.getD i 0 := by
  have hl : ((List.zipWith (· + ·) h v).take i).length = i := by simp [hh, hv]; omega
  rw [List.getD_eq_getElem?_getD, hz, List.getElem?_append_right (by omega), hl, Nat.sub_self, List.getElem?_drop, Nat.add_zero, List.getD_eq_getElem?_getD]
theorem Adp {h v : List W32} (hh : h.length = 8) (hv : v.length = 8) {i : Nat} (hi : i < 8) : (hz h v i).set i (h.getD i 0 + v.getD i 0) = hz h v (i + 1) := by
  have hl : ((List.zipWith (· + ·) h v).take i).length = i := by simp [hh, hv]; omega
  have hzl : (List.zipWith (· + ·) h v).length = 8 := by simp [hh, hv]
  unfold hz
  rw [List.set_append_right _ _ (by omega), hl, Nat.sub_self, List.drop_eq_getElem_cons (show i < h.length by omega), List.set_cons_zero, List.take_add_one, List.getElem?_eq_getElem (show i < (List.zipWith (· + ·) h v).length by omega)]
  simp [List.getD_eq_getElem?_getD, List.getElem?_eq_getElem (show i < h.length by omega), List.getElem?_eq_getElem (show i < v.length by omega)]
theorem AfD {h v : List W32} (hh : h.length = 8) (hv : v.length = 8) : hz h v 8 = List.zipWith (· + ·) h v := by
  unfold hz
  rw [List.take_of_length_le (by simp [hh, hv]), List.drop_of_length_le (by omega), List.append_nil]
theorem VN (hc : Cub w) (hb : RdB w.heap b l) (hl : l.length = 64) (hh : h.length = 8) : cal P JG [.agg (wvs h).toArray, b] w fun r w' => r = .agg (wvs (mixM h l)).toArray ∧ Fr [] w w' := by
  refine Ab9 fun R hR => ?_
  unfold Tu
  refine bx_s (Sep.start w) fun g2 w1 hs => ?_
  simp only [Value.cells] at hs
  refine Av hs (A_a8 w1) fun g4 w2 hs => ?_
  rw [FW (Sep.p1 hs).blk hh]
  refine Av hs (A_a8 w2) fun g5 w3 hs => ?_
  refine Fq hs (by simp) hh fun w4 hs => ?_
  refine Af (Zj (hs.rdB hb) hl) ?_
  rintro _ w5 ⟨rfl, hf5⟩
  replace hs := hs.old hf5
  have hsl := Ld l 64
  refine ⟨fun a w' => ∃ t : Nat, a = .int .i64 t ∧ t ≤ 64 ∧ Sep w w' [wa g5 (rns l h t) Bc, wa g4 (List.replicate 8 0) Bc, wa g2 h Bc], fun z _ => (64 - RowKit.intOf z).toNat, ⟨0, rfl, by omega, hs⟩, ?_⟩
  rintro _ w6 ⟨t, rfl, ht, hs6⟩ -
  simp only [fx, Nat.reduceAdd, forall_const]
  have hvl := Xb l hh t
  rw [Aj]
  refine ⟨fun hlt => ?_, fun hlt => ?_⟩
  · have h64 : t < 64 := by simp at hlt; omega
    rw [Ahd .i64 hsl h64]
    refine CT hs6 fun w7 hs7 _ => ?_
    generalize hv : rns l h t = v at *
    have i0 : ∀ K, ixa 8 1 (.pointer (some ⟨g5, 0, none⟩)) (.int .i64 0) K = K (.pointer (some ⟨g5, 0, none⟩)) := fun K => Fs .i64 0 (by decide) (by decide) K
    have i1 : ∀ K, ixa 8 1 (.pointer (some ⟨g5, 0, none⟩)) (.int .i64 1) K = K (.pointer (some ⟨g5, 1, none⟩)) := fun K => Fs .i64 1 (by decide) (by decide) K
    have i2 : ∀ K, ixa 8 1 (.pointer (some ⟨g5, 0, none⟩)) (.int .i64 2) K = K (.pointer (some ⟨g5, 2, none⟩)) := fun K => Fs .i64 2 (by decide) (by decide) K
    have i3 : ∀ K, ixa 8 1 (.pointer (some ⟨g5, 0, none⟩)) (.int .i64 3) K = K (.pointer (some ⟨g5, 3, none⟩)) := fun K => Fs .i64 3 (by decide) (by decide) K
    have i4 : ∀ K, ixa 8 1 (.pointer (some ⟨g5, 0, none⟩)) (.int .i64 4) K = K (.pointer (some ⟨g5, 4, none⟩)) := fun K => Fs .i64 4 (by decide) (by decide) K
    have i5 : ∀ K, ixa 8 1 (.pointer (some ⟨g5, 0, none⟩)) (.int .i64 5) K = K (.pointer (some ⟨g5, 5, none⟩)) := fun K => Fs .i64 5 (by decide) (by decide) K
    have i6 : ∀ K, ixa 8 1 (.pointer (some ⟨g5, 0, none⟩)) (.int .i64 6) K = K (.pointer (some ⟨g5, 6, none⟩)) := fun K => Fs .i64 6 (by decide) (by decide) K
    have i7 : ∀ K, ixa 8 1 (.pointer (some ⟨g5, 0, none⟩)) (.int .i64 7) K = K (.pointer (some ⟨g5, 7, none⟩)) := fun K => Fs .i64 7 (by decide) (by decide) K
    rw [i0, ld_w hs7.blk (by omega), i4, ld_w hs7.blk (by omega)]
    refine Af (Fe (-6) 6 (by decide) (by decide)) ?_
    rintro _ _ ⟨rfl, rfl⟩
    refine Af (Fe (-11) 11 (by decide) (by decide)) ?_
    rintro _ _ ⟨rfl, rfl⟩
    rw [Df]
    refine Af (Fe (-25) 25 (by decide) (by decide)) ?_
    rintro _ _ ⟨rfl, rfl⟩
    rw [Df]
    refine CT hs7 fun w8 hs8 _ => ?_
    obtain ⟨tc, fc, hcub⟩ := hc.fr hs8.fr0
    rw [i7, ld_w hs8.blk (by omega), Dg, i5, ld_w hs8.blk (by omega), LP, AfA, i6, ld_w hs8.blk (by omega), LP, Df, Dg, Cv .i64 h64, ld_w hcub (by show t < 64; omega), Dg, Dg]
    refine Af (Fe (-2) 2 (by decide) (by decide)) ?_
    rintro _ _ ⟨rfl, rfl⟩
    refine Af (Fe (-13) 13 (by decide) (by decide)) ?_
    rintro _ _ ⟨rfl, rfl⟩
    rw [Df]
    refine Af (Fe (-22) 22 (by decide) (by decide)) ?_
    rintro _ _ ⟨rfl, rfl⟩
    have hld : ∀ i, i < 8 → ∀ K, ld1 (.pointer (some ⟨g5, i, none⟩)) w8.heap K = K (wv (v.getD i 0)) := fun i hi K => ld_w hs8.blk (by omega) K
    rw [Df, i1, hld 1 (by decide), LP, i2, hld 2 (by decide), LP, Df, i1, hld 1 (by decide), i2, hld 2 (by decide), LP, Df, Dg, Dg, i1, hld 1 (by decide), i2, hld 2 (by decide), i3, hld 3 (by decide), Dg, i5, hld 5 (by decide), i6, hld 6 (by decide), B_a8]
    refine Fq hs8 (by omega) rfl fun w9 hs9 => ?_
    rw [wi64 (by omega) (by omega)]
    refine ⟨⟨t + 1, by simp, by omega, ?_⟩, by simp [RowKit.intOf]; omega⟩
    rw [rns, hv]
    exact hs9
  · have h64 : t = 64 := by simp at hlt; omega
    subst h64
    generalize hv : rns l h 64 = v at *
    refine ⟨fun a w' => ∃ i : Nat, a = .int .i64 i ∧ i ≤ 8 ∧ Sep w w' [wa g2 (hz h v i) Bc, wa g5 v Bc, wa g4 (List.replicate 8 0) Bc], fun z _ => (8 - RowKit.intOf z).toNat, ⟨0, rfl, by omega, by rw [Ac5]; exact hs6.p2⟩, ?_⟩
    rintro _ w7 ⟨i, rfl, hi, hs7⟩ -
    simp only [fx, Nat.reduceAdd, forall_const]
    have hzl := AfM hh hvl hi
    rw [Aj]
    refine ⟨fun hlt => ?_, fun hlt => ?_⟩
    · have h8 : i < 8 := by simp at hlt; omega
      refine Hi hs7 fun w8 hs8 _ => ?_
      simp only [Fz]
      rw [Cv .i64 h8, ld_w hs8.blk (by omega), Cv .i64 h8, ld_w (Sep.p1 hs8).blk (by omega), Dg, Cv .i64 h8, Af3 hh hvl h8]
      refine Dd (st_w hs8 (by omega) _ fun w9 hs9 => ?_)
      rw [wi64 (by omega) (by omega)]
      rw [Adp hh hvl h8] at hs9
      exact ⟨⟨i + 1, by simp, by omega, hs9⟩, by simp [RowKit.intOf]; omega⟩
    · have h8 : i = 8 := by simp at hlt; omega
      subst h8
      rw [FW hs7.blk hzl]
      refine Fq hs7.p2 (by simp) hzl fun w8 hs8 => ?_
      rw [FW hs8.blk hzl]
      refine hR _ _ ⟨?_, hs8.fr0⟩
      rw [AfD hh hvl, mixM, hv]
theorem Ae2 (hb : RdB w.heap b l) (hl : l.length = 64) (hh : h.length = 8) : cal P LM [.agg (wvs h).toArray, b] w fun r w' => r = .agg (wvs (mixM h l)).toArray ∧ Fr [] w w' := by
  refine Abc fun R hR => ?_
  unfold PK
  refine bx_s (Sep.start w) fun g2 w1 hs => ?_
  simp only [Value.cells] at hs
  refine Av hs (A_a8 w1) fun g4 w2 hs => ?_
  refine Af (Aeg (hs.rdB hb) hl) ?_
  rintro _ w3 ⟨rfl, hf3⟩
  replace hs := hs.old hf3
  have hsl := Ld l 64
  refine Av hs (Ow w3) fun g5 w4 hs => ?_
  refine Fq hs (by simp) hsl fun w5 hs => ?_
  refine Af Xf ?_
  rintro _ w6 ⟨rfl, hf6⟩
  replace hs := hs.old hf6
  refine Av hs (Ow w6) fun g6 w7 hs => ?_
  refine Fq hs (by simp) rfl fun w8 hs => ?_
  rw [FW (Sep.p3 hs).blk hh]
  refine Av hs (A_a8 w8) fun g7 w9 hs => ?_
  refine Fq hs (by simp) hh fun w10 hs => ?_
  refine ⟨fun a w' => ∃ t : Nat, a = .int .i64 t ∧ t ≤ 64 ∧ Sep w w' [wa g7 (rns l h t) Bc, wa g6 HU Bn, wa g5 (sch l 64) Bn, wa g4 (List.replicate 8 0) Bc, wa g2 h Bc], fun z _ => (64 - RowKit.intOf z).toNat, ⟨0, rfl, by omega, hs⟩, ?_⟩
  rintro _ w11 ⟨t, rfl, ht, hs6⟩ -
  simp only [fx, Nat.reduceAdd, forall_const]
  have hvl := Xb l hh t
  have hcl : HU.length = 64 := rfl
  rw [Aj]
  refine ⟨fun hlt => ?_, fun hlt => ?_⟩
  · have h64 : t < 64 := by simp at hlt; omega
    generalize hv : rns l h t = v at *
    have i0 : ∀ K, ixa 8 1 (.pointer (some ⟨g7, 0, none⟩)) (.int .i64 0) K = K (.pointer (some ⟨g7, 0, none⟩)) := fun K => Fs .i64 0 (by decide) (by decide) K
    have i1 : ∀ K, ixa 8 1 (.pointer (some ⟨g7, 0, none⟩)) (.int .i64 1) K = K (.pointer (some ⟨g7, 1, none⟩)) := fun K => Fs .i64 1 (by decide) (by decide) K
    have i2 : ∀ K, ixa 8 1 (.pointer (some ⟨g7, 0, none⟩)) (.int .i64 2) K = K (.pointer (some ⟨g7, 2, none⟩)) := fun K => Fs .i64 2 (by decide) (by decide) K
    have i3 : ∀ K, ixa 8 1 (.pointer (some ⟨g7, 0, none⟩)) (.int .i64 3) K = K (.pointer (some ⟨g7, 3, none⟩)) := fun K => Fs .i64 3 (by decide) (by decide) K
    have i4 : ∀ K, ixa 8 1 (.pointer (some ⟨g7, 0, none⟩)) (.int .i64 4) K = K (.pointer (some ⟨g7, 4, none⟩)) := fun K => Fs .i64 4 (by decide) (by decide) K
    have i5 : ∀ K, ixa 8 1 (.pointer (some ⟨g7, 0, none⟩)) (.int .i64 5) K = K (.pointer (some ⟨g7, 5, none⟩)) := fun K => Fs .i64 5 (by decide) (by decide) K
    have i6 : ∀ K, ixa 8 1 (.pointer (some ⟨g7, 0, none⟩)) (.int .i64 6) K = K (.pointer (some ⟨g7, 6, none⟩)) := fun K => Fs .i64 6 (by decide) (by decide) K
    have i7 : ∀ K, ixa 8 1 (.pointer (some ⟨g7, 0, none⟩)) (.int .i64 7) K = K (.pointer (some ⟨g7, 7, none⟩)) := fun K => Fs .i64 7 (by decide) (by decide) K
    rw [i4, ld_w hs6.blk (by omega), i0, ld_w hs6.blk (by omega)]
    refine Hi hs6 fun w12 hs7 _ => ?_
    have hld : ∀ i, i < 8 → ∀ K, ld1 (.pointer (some ⟨g7, i, none⟩)) w12.heap K = K (wv (v.getD i 0)) := fun i hi K => ld_w hs7.blk (by omega) K
    simp only [Fz, Ade, i7, i5, i6, hld 7 (by decide), hld 5 (by decide), hld 6 (by decide), LP, AfA, Df]
    rw [Cv .i64 h64, ld_w (Sep.p1 hs7).blk (by omega), Cv .i64 h64, ld_w (Sep.p2 hs7).blk (by omega)]
    refine AL (Af (DB 6 6 rfl (by decide)) ?_)
    rintro _ _ ⟨rfl, rfl⟩
    refine ⟨rfl, AL (Af (DB 11 11 rfl (by decide)) ?_)⟩
    rintro _ _ ⟨rfl, rfl⟩
    rw [Df]
    refine ⟨rfl, AL (Af (DB 25 25 rfl (by decide)) ?_)⟩
    rintro _ _ ⟨rfl, rfl⟩
    rw [Df, Dg, Dg, Dg, Dg]
    refine ⟨rfl, Hi hs7 fun w13 hs8 _ => ?_⟩
    have hld : ∀ i, i < 8 → ∀ K, ld1 (.pointer (some ⟨g7, i, none⟩)) w13.heap K = K (wv (v.getD i 0)) := fun i hi K => ld_w hs8.blk (by omega) K
    simp only [Fz, i1, i2, hld 1 (by decide), hld 2 (by decide), LP, Df]
    refine AL (Af (DB 2 2 rfl (by decide)) ?_)
    rintro _ _ ⟨rfl, rfl⟩
    refine ⟨rfl, AL (Af (DB 13 13 rfl (by decide)) ?_)⟩
    rintro _ _ ⟨rfl, rfl⟩
    rw [Df]
    refine ⟨rfl, AL (Af (DB 22 22 rfl (by decide)) ?_)⟩
    rintro _ _ ⟨rfl, rfl⟩
    refine ⟨rfl, ?_⟩
    simp only [Df, Dg, i0, i3, i4, hld 0 (by decide), hld 1 (by decide), hld 2 (by decide), hld 3 (by decide), hld 4 (by decide), hld 5 (by decide), hld 6 (by decide), B_a8]
    refine Fq hs8 (by omega) rfl fun w14 hs9 => ?_
    rw [wi64 (by omega) (by omega)]
    refine ⟨⟨t + 1, by simp, by omega, ?_⟩, by simp [RowKit.intOf]; omega⟩
    rw [rns, hv]
    exact hs9
  · have h64 : t = 64 := by simp at hlt; omega
    subst h64
    generalize hv : rns l h 64 = v at *
    refine ⟨fun a w' => ∃ i : Nat, a = .int .i64 i ∧ i ≤ 8 ∧ Sep w w' [wa g2 (hz h v i) Bc, wa g7 v Bc, wa g4 (List.replicate 8 0) Bc], fun z _ => (8 - RowKit.intOf z).toNat, ⟨0, rfl, by omega, by rw [Ac5]; exact hs6.d1.d1.p2⟩, ?_⟩
    rintro _ w12 ⟨i, rfl, hi, hs7⟩ -
    simp only [fx, Nat.reduceAdd, forall_const]
    have hzl := AfM hh hvl hi
    rw [Aj]
    refine ⟨fun hlt => ?_, fun hlt => ?_⟩
    · have h8 : i < 8 := by simp at hlt; omega
      refine Hi hs7 fun w13 hs8 _ => ?_
      simp only [Fz]
      rw [Cv .i64 h8, ld_w hs8.blk (by omega), Cv .i64 h8, ld_w (Sep.p1 hs8).blk (by omega), Dg, Cv .i64 h8, Af3 hh hvl h8]
      refine Dd (st_w hs8 (by omega) _ fun w14 hs9 => ?_)
      rw [wi64 (by omega) (by omega)]
      rw [Adp hh hvl h8] at hs9
      exact ⟨⟨i + 1, by simp, by omega, hs9⟩, by simp [RowKit.intOf]; omega⟩
    · have h8 : i = 8 := by simp at hlt; omega
      subst h8
      rw [FW hs7.blk hzl]
      refine Fq hs7.p2 (by simp) hzl fun w13 hs8 => ?_
      rw [FW hs8.blk hzl]
      refine hR _ _ ⟨?_, hs8.fr0⟩
      rw [AfD hh hvl, mixM, hv]
end
end Go.Fx
namespace Go.Fx
section
variable {w0 w : World} {b s : Value} {l m : List UInt8} {h : List W32} {As : List Asn}
theorem Agm (v i : Nat) (hi : i < 8) (hv : v < 18446744073709551616) : cvi .u8 (.int .u64 ((v / 256 ^ (7 - i) : Nat) : Int)) = fun K => K (bv (UInt8.ofNat (v / 256 ^ (7 - i)))) := by
  funext K
  rw [Gs, US _ (Int.natCast_nonneg _), Int.toNat_natCast]
theorem AeZ (v : Nat) : ∀ n i, i < n → (be n v)[i]? = some (UInt8.ofNat (v / 256 ^ (n - 1 - i)))
  | n + 1, 0, _ => by rw [NQ]; simp
  | n + 1, i + 1, h => by
    rw [NQ, List.getElem?_cons_succ, AeZ v n i (by omega)]
    congr 4
    omega
theorem Adc (v n i : Nat) (hi : i < n) : (be n v).take (i + 1) = (be n v).take i ++ [UInt8.ofNat (v / 256 ^ (n - 1 - i))] := by
  rw [List.take_add_one, AeZ v n i hi]
  rfl
theorem Ahe (v i : Nat) (hi : i < 8) (K : Value → Prop) : sh .shr (.int .u64 (v : Int)) (.int .u64 ((56 - 8 * i : Nat) : Int)) K = K (.int .u64 ((v / 256 ^ (7 - i) : Nat) : Int)) := by
  rw [Vr _ _ _ _ _ (by omega)]
  have h1 : min (((56 - 8 * i : Nat) : Int)).toNat IntKind.u64.bits = 8 * (7 - i) := by show min _ 64 = _; omega
  have h2 : (2 : Int) ^ (8 * (7 - i)) = ((256 ^ (7 - i) : Nat) : Int) := by
    rw [Int.pow_mul]
    simp
  rw [h1, h2, Int.ofNat_fdiv]
theorem AbV (hb : RdB w.heap b l) (hl : l.length ≤ 100000) : cal P Jl [b] w fun r w' => Sep w w' [ownB r (padT l l.length)] := by
  refine WL fun R hR => ?_
  unfold NI
  refine G7 EY DE (by simp) (Sep.start w).nil hb (by simp; omega) fun v1 w1 hs1 => ?_
  rw [List.nil_append] at hs1
  refine app0 128 (.inr rfl) hs1 (by omega) fun v2 w2 hs2 => ?_
  rw [if_neg (by decide)] at hs2
  refine ⟨fun a w' => ∃ j : Nat, j ≤ zer (l.length + 1) ∧ Sep w w' [ownB a (l ++ [128] ++ List.replicate j 0)], fun a _ => match a with
    | .slice _ n _ => (l.length + 1 + zer (l.length + 1)) - n
    | _ => 0, ⟨0, by omega, by simpa using hs2⟩, ?_⟩
  rintro v3 w3 ⟨j, hj, hs3⟩ -
  have hz := AbF (l.length + 1)
  obtain ⟨a3, c3, rfl⟩ := Sep.sl hs3
  have hlen : (l ++ [128] ++ List.replicate j 0).length = l.length + 1 + j := by simp; omega
  simp only [Hp, hlen]
  rw [Nx .i64 _ _ _ (by decide), show (64 : Int) = ((64 : Nat) : Int) from rfl, tmodn, LD, Aj]
  refine ⟨fun h => ?_, fun h => ?_⟩
  · have h56 : (l.length + 1 + j) % 64 ≠ 56 := by simp at h; omega
    have hjz : j < zer (l.length + 1) := by
      rcases Nat.lt_or_ge j (zer (l.length + 1)) with h' | h'
      · exact h'
      · have : j = zer (l.length + 1) := by omega
        rw [this, ZI] at h56
        exact absurd rfl h56
    rw [← hlen]
    refine app0 0 (.inl rfl) hs3 (by rw [hlen]; omega) fun v4 w4 hs4 => ?_
    rw [if_pos rfl] at hs4
    have e : l ++ [128] ++ List.replicate j 0 ++ [0] = l ++ [128] ++ List.replicate (j + 1) 0 := by rw [List.replicate_succ', List.append_assoc]
    rw [e] at hs4
    obtain ⟨a4, c4, rfl⟩ := Sep.sl hs4
    refine ⟨⟨j + 1, by omega, hs4⟩, ?_⟩
    simp
    omega
  · have h56 : (l.length + 1 + j) % 64 = 56 := by simp at h; omega
    have hjz : j = zer (l.length + 1) := by
      rcases Nat.lt_or_ge j (zer (l.length + 1)) with h' | h'
      · exact absurd h56 (Ae7 h')
      · omega
    rw [← hlen, hb.len]
    rw [Gs, ZC, Nat.mod_eq_of_lt (by omega), Qz, show ((l.length : Int) * 8) = ((l.length * 8 : Nat) : Int) by simp, ZC]
    generalize hv : l.length * 8 % 18446744073709551616 = v
    have hvb : v < 18446744073709551616 := by omega
    have hv8 : be 8 (l.length * 8 % 18446744073709551616) = be 8 v := by rw [hv]
    refine ⟨fun a c w' => ∃ i : Nat, c = .int .i64 i ∧ i ≤ 8 ∧ Sep w w' [ownB a (l ++ [128] ++ List.replicate j 0 ++ (be 8 v).take i)], fun _ c _ => (8 - RowKit.intOf c).toNat, ⟨0, rfl, by omega, by simpa using hs3⟩, ?_⟩
    rintro v5 _ w5 ⟨i, rfl, hi, hs5⟩ -
    simp only [fx, Nat.reduceAdd, forall_const]
    rw [Aj]
    refine ⟨fun h => ?_, fun h => ?_⟩
    · have h8 : i < 8 := by simp at h; omega
      have e1 : IntKind.u64.wrap (IntKind.i64.wrap (56 - IntKind.i64.wrap (8 * (i : Int)))) = ((56 - 8 * i : Nat) : Int) := by
        rw [wi64 (x := 8 * (i : Int)) (by omega) (by omega), wi64 (by omega) (by omega), K2 (by omega) (by omega)]
        omega
      rw [e1, Ahe v i h8, Agm v i h8 hvb]
      refine app1 hs5 (by simp [Cg]; omega) fun v6 w6 hs6 => ?_
      rw [wi64 (by omega) (by omega)]
      rw [List.append_assoc, ← Adc v 8 i h8] at hs6
      exact ⟨⟨i + 1, by simp, by omega, hs6⟩, by simp [RowKit.intOf]; omega⟩
    · have h8 : i = 8 := by simp at h; omega
      subst h8
      rw [List.take_of_length_le (by rw [Cg]; omega)] at hs5
      refine hR _ _ ?_
      rw [padT, hv8, ← hjz]
      exact hs5
end
end Go.Fx
namespace Go.Fx
theorem AaH {h : List W32} {i : Nat} (hi : i < 4 * h.length) : (h.flatMap wOut)[i]? = some (UInt8.ofNat ((h.getD (i / 4) 0) >>> (24 - 8 * (i % 4))).toNat) := by
  induction h generalizing i with
  | nil => simp at hi
  | cons x h ih =>
    rw [List.flatMap_cons]
    by_cases h4 : i < 4
    · rw [List.getElem?_append_left (by simp [wOut]; omega)]
      have : i = 0 ∨ i = 1 ∨ i = 2 ∨ i = 3 := by omega
      rcases this with rfl | rfl | rfl | rfl <;> simp [wOut]
    · have hl : (wOut x).length = 4 := rfl
      rw [List.getElem?_append_right (by omega), hl, ih (by simp at hi; omega)]
      have e1 : i / 4 = (i - 4) / 4 + 1 := by omega
      have e2 : (i - 4) % 4 = i % 4 := by omega
      rw [e1, e2]
      rfl
section
variable {w0 w : World} {b : Value} {l : List UInt8} {As : List Asn}
theorem Adj (K : Value → Prop) : rdP P (Instr.build Bc #[(0, (Value.int IntKind.u32 1779033703)), (1, (Value.int IntKind.u32 3144134277)), (2, (Value.int IntKind.u32 1013904242)), (3, (Value.int IntKind.u32 2773480762)), (4, (Value.int IntKind.u32 1359893119)), (5, (Value.int IntKind.u32 2600822924)), (6, (Value.int IntKind.u32 528734635)), (7, (Value.int IntKind.u32 1541459225))]) w K = K (.agg (wvs G0).toArray) := DI (by kernel_rfl) K
theorem Agb (hb : RdB w.heap b l) (hl : l.length ≤ 100000) : cal P MW [b] w fun r w' => r = .agg (Rdr.cells (rVec 32) (shaM l)).toArray ∧ Fr [] w w' := by
  refine AcI fun R hR => ?_
  unfold Ti
  refine Av (Sep.start w) (AS w) fun g2 w1 hs => ?_
  refine Af (AbV (hs.rdB hb) hl) ?_
  rintro v9 w2 hs2
  replace hs2 := hs.join hs2
  rw [Adj]
  refine Av hs2 (A_a8 w2) fun g4 w3 hs3 => ?_
  refine Fq hs3 (by simp) rfl fun w4 hs4 => ?_
  obtain ⟨a9, c9, rfl, hc9⟩ := Sep.form hs4.p1
  have hmod := ZY l l.length
  generalize hpad : padT l l.length = pad at *
  have hlp : pad.length ≤ 200000 := by
    have := AbF (l.length + 1)
    rw [← hpad, padT]
    simp [Cg]
    omega
  refine ⟨fun a w' => ∃ (i : Nat) (h : List W32), a = .int .i64 i ∧ i ≤ pad.length ∧ i % 64 = 0 ∧ h.length = 8 ∧ D1 G0 pad = D1 h (pad.drop i) ∧ Sep w w' [wa g4 h Bc, ownB (.slice a9 pad.length c9) pad, blk g2 (Rdr.cells (rVec 32) (vz 32)).toArray Aa],
    fun z _ => (pad.length - RowKit.intOf z).toNat, ⟨0, G0, rfl, by omega, rfl, rfl, rfl, hs4⟩, ?_⟩
  rintro _ w5 ⟨i, h, rfl, hi, him, hh, hfold, hs5⟩ -
  simp only [fx, Nat.reduceAdd, forall_const]
  rw [Aj]
  refine ⟨fun hlt => ?_, fun hlt => ?_⟩
  · have hlt : i < pad.length := by simp at hlt; omega
    have h64 : i + 64 ≤ pad.length := by omega
    refine Hi hs5 fun w6 hs6 _ => ?_
    have e : IntKind.i64.wrap ((i : Int) + 64) = ((i + 64 : Nat) : Int) := by rw [wi64 (by omega) (by omega)]; omega
    simp only [Nt, e]
    rw [FW hs6.blk hh, Ahy (by omega) (by omega), Nat.add_sub_cancel_left]
    have hrd := (((Sep.p1 hs6).rd).drop (k := i) (by omega) hc9 (c9 - i)).take (k := 64) (by omega) (c9 - i)
    refine BD (Af (Ae2 hrd (by simp; omega) hh) ?_)
    rintro _ w7 ⟨rfl, hf7⟩
    have hs7 := hs6.old hf7
    have hml := N8 ((pad.drop i).take 64) hh
    refine A9 (Fq hs7 hh hml fun w8 hs8 => ?_)
    refine ⟨⟨i + 64, _, rfl, by omega, by omega, hml, ?_, hs8⟩, by simp [RowKit.intOf]; omega⟩
    rw [hfold, FV (by simp; omega), List.drop_drop]
  · have hge : i = pad.length := by simp at hlt; omega
    subst hge
    rw [List.drop_length, GL (h := h) (l := []) (by simp)] at hfold
    have hsha : shaL l = h := by rw [shaL, hpad, hfold]
    obtain ⟨o, ho⟩ : ∃ o, o = h.flatMap wOut := ⟨_, rfl⟩
    have hol : o.length = 32 := by rw [ho, UD, hh]
    refine Av hs5 (AS w5) fun g6 w6 hs6 => ?_
    refine ⟨fun a w' => ∃ i : Nat, a = .int .i64 i ∧ i ≤ 32 ∧ Sep w w' [blk g6 (bvs (part o i)).toArray Aa, wa g4 h Bc, blk g2 (Rdr.cells (rVec 32) (vz 32)).toArray Aa],
      fun z _ => (32 - RowKit.intOf z).toNat, ⟨0, rfl, by omega, ?_⟩, ?_⟩
    · have e0 : bvs (part o 0) = Rdr.cells (rVec 32) (vz 32) := by rw [XV, hol]; rfl
      rw [e0]
      exact hs6.d2
    rintro _ w7 ⟨i, rfl, hi, hs7⟩ -
    simp only [fx, Nat.reduceAdd, forall_const]
    rw [Aj]
    refine ⟨fun hlt => ?_, fun hlt => ?_⟩
    · have h32 : i < 32 := by simp at hlt; omega
      rw [Abo .i64 _ _ _ (by decide), show (4 : Int) = ((4 : Nat) : Int) from rfl, tdivn, wi64 (by omega) (by omega), Cv .i64 (by omega), ld_w (Sep.p1 hs7).blk (by omega), Nx .i64 _ _ _ (by decide), tmodn]
      have e1 : IntKind.u64.wrap (IntKind.i64.wrap (24 - IntKind.i64.wrap (8 * ((i % 4 : Nat) : Int)))) = ((24 - 8 * (i % 4) : Nat) : Int) := by
        rw [wi64 (x := 8 * ((i % 4 : Nat) : Int)) (by omega) (by omega), wi64 (by omega) (by omega), K2 (by omega) (by omega)]
        omega
      simp only [Qz, Ru, Gs, e1]
      rw [Wg _ _ .u64 (by omega), w_b, Cv .i64 h32]
      refine st_b hs7 (by rw [ho]; exact AaH (by omega)) fun w8 hs8 => ?_
      rw [wi64 (by omega) (by omega)]
      exact ⟨⟨i + 1, by simp, by omega, hs8⟩, by simp [RowKit.intOf]; omega⟩
    · have h32 : i = 32 := by simp at hlt; omega
      subst h32
      have e2 : bvs (part o 32) = Rdr.cells (rVec 32) (shaM l) := by
        have hsm : (shaM l).1 = o := by rw [ho, ← hsha]; rfl
        show bvs (part o 32) = bvs (shaM l).1
        rw [hsm, ← hol, Aby]
      rw [e2] at hs7
      simp only [Ai hs7.blk]
      refine AE hs7.p2 fun w8 hs8 => ?_
      simp only [Ai hs8.blk]
      exact hR _ _ ⟨rfl, hs8.fr0⟩
end
end Go.Fx
namespace Go.Fx
theorem AhR {P : Program} {t tx ty E : Nat} {w0 w : World} {As : List Asn} {n : Nat} {K : Value → World → Prop} (hT : SlT P t E 1 1) (hx : P.underlying tx = some (.int .i64)) (hs : Sep w0 w As) (h0 : 0 < n) (hn : n ≤ 1000000)
    (h : ∀ g c w', Sep w0 w' (ownB (.slice (some ⟨g, 0, none⟩) 0 c) [] :: As) → K (.slice (some ⟨g, 0, none⟩) n c) w') : efP P (Builtin.append_ #[t, tx] ty #[.slice none 0 0, .int .i64 n]) w K := by
  obtain ⟨i, z, hi, hsz, hby, hz, hzc⟩ := Om hT
  have hund := hT.und
  have hzs : z.cells.size = 1 := by rw [hzc]; exact hT.zcs
  have h48 : ¬ (281474976710656 < Builtin.nextslicecap n 0 * i.bytes) := by
    rw [hby]; have := growslice_fits (old := 0) (need := n) (bytes := 1) h0 (by omega); omega
  have hold : Cel w.drew.heap (.slice none 0 0) 1 0 [] := ⟨none, 0, rfl, rfl, .inl rfl⟩
  have holdr := hold.load (P := P)
  have hge := grownCap_ge w n 0 E
  refine ⟨.slice (some ⟨w.heap.size, 0, none⟩) n (grownCap w n 0 E), w.drew.alloc (.cells (Builtin.zeroCells z.cells n ++ Builtin.zeroCells z.cells (grownCap w n 0 E - n)) E), ?_, h _ _ _ (hs.new (((Fr.refl [] w).drew _).trans (Fb _ _) (by simp) (by simp)) (B := ownB _ _) (F' := [w.heap.size]) ⟨rfl, .inr ⟨w.heap.size, 0, _, _, E, rfl, Nat.zero_le _, Ez w.drew _, ?_, by simp [bvs], rfl⟩⟩ (by simp))⟩
  · have hw : IntKind.i64.wrap (n : Int) = n := wi64 (by omega) (by omega)
    simp only [Builtin.append_, Sem.run_bind, Sem.run_pure, List.getElem?_toArray, List.getElem?_cons_zero, List.getElem?_cons_succ, run_underlying hund, Result.andThen_ok, BS hT.siz, run_underlying hx]
    have ha : Sem.run P (asIntOf (.int .i64 (n : Int))) w = .ok (.i64, (n : Int)) w := rfl
    have h1 : ¬ ((n : Int) < 0) := by omega
    have h2 : ¬ (281474976710656 < (n : Int)) := by omega
    have h3 : ¬ n = 0 := by omega
    have h4 : ¬ (9223372036854775807 < (n : Int)) := by omega
    have h48' : ¬ (281474976710656 < Builtin.nextslicecap n 0) := by rw [hby, Nat.mul_one] at h48; exact h48
    simp [asInt, ha, hw, typeInfo, hi, hby, h1, h2, h3, h4, h48', zeroValue, hz, Question.forced, holdr, newRow, grownCap]
  · simp only [Array.size_append, size_zeroCells, hzs]
    omega
theorem AiA {P : Program} {t t' e : TypeId} {w : World} {a : Option Addr} {n c : Nat} (hu : P.underlying t = some (.slice e)) (K : Value → Prop) : rdP P (Builtin.cap_ #[t] t' #[.slice a n c]) w K = K (.int .i64 c) := by
  refine DI ?_ K
  simp [Builtin.cap_, run_underlying hu, goInt]
section
variable {w0 w : World} {b s : Value} {l m : List UInt8} {As : List Asn}
theorem Afk (n : Nat) (hn : n ≤ 1000000) : cal P EN [.slice none 0 0, .int .i64 n] w fun r w' => Sep w w' [ownB r []] := by
  refine Mf fun R hR => ?_
  unfold Hu
  have e0 : decide ((n : Int) < 0) = false := by simp
  simp only [fx, Nat.reduceAdd, forall_const, e0, AiA DE, Int.natCast_zero, Int.sub_zero]
  rw [wi64 (x := 0) (by decide) (by decide), Int.sub_zero, wi64 (by omega) (by omega), Aj]
  refine ⟨fun h => ?_, fun h => ?_⟩
  · have h0 : 0 < n := by simp at h; omega
    rw [show (Value.int .i64 0) = .int .i64 ((0 : Nat) : Int) from rfl, Rq (Nat.le_refl 0)]
    refine AhR EY ZE (Sep.start w) h0 hn fun g c w1 hs => ?_
    rw [Rq (Nat.zero_le _)]
    exact hR _ _ hs
  · exact hR _ _ (Sep.start w).nil
end
end Go.Fx
namespace Go.Fx
section
variable {w0 w : World} {v s0 s1 : Value} {l m : List UInt8} {As : List Asn}
theorem AcW (hv : Cel w.heap v 1 2 [s0, s1]) (h0 : RdB w.heap s0 l) (h1 : RdB w.heap s1 m) (hl : l.length + m.length ≤ 1000000) : cal P Ev [v] w fun r w' => Sep w w' [ownB r (l ++ m)] := by
  refine KU fun R hR => ?_
  unfold GF
  obtain ⟨a, c, hva, _⟩ := id hv
  have hlen : ∀ K, lenS v K = K (.int .i64 ((2 : Nat) : Int)) := fun K => by rw [hva, Hp]
  obtain ⟨f, hf⟩ : ∃ f : Nat → Nat, f = fun i => if i = 0 then 0 else if i = 1 then l.length else l.length + m.length := ⟨_, rfl⟩
  have hf0 : f 0 = 0 := by rw [hf]; rfl
  have hf1 : f 1 = l.length := by rw [hf]; rfl
  have hf2 : f 2 = l.length + m.length := by rw [hf]; rfl
  simp only [hlen]
  refine ⟨fun x y w' => ∃ i : Nat, x = .int .i64 (f i : Nat) ∧ y = .int .i64 i ∧ i ≤ 2 ∧ w' = w, fun _ y _ => (2 - RowKit.intOf y).toNat, ⟨0, by rw [hf0]; rfl, rfl, by omega, rfl⟩, ?_⟩
  rintro _ _ w1 ⟨i, rfl, rfl, hi, rfl⟩ -
  simp only [fx, Nat.reduceAdd, forall_const]
  rw [Aj]
  refine ⟨fun h => ?_, fun h => ?_⟩
  · have hlt : i = 0 ∨ i = 1 := by simp at h; omega
    refine ⟨fun t w' => t = .int .i64 (f (i + 1) : Nat) ∧ w' = w1, ?_, ?_⟩
    · rcases hlt with rfl | rfl
      · refine ldx hv (j := 0) (u := s0) rfl ?_
        rw [h0.len]
        simp only [fx, Nat.reduceAdd, forall_const]
        rw [hf0, hf1, wi64 (by omega) (by omega), decide_eq_false (by omega), MB]
        exact ⟨by simp, trivial⟩
      · refine ldx hv (j := 1) (u := s1) rfl ?_
        rw [h1.len]
        simp only [fx, Nat.reduceAdd, forall_const]
        rw [hf1, hf2, wi64 (by omega) (by omega), decide_eq_false (by omega), MB]
        exact ⟨by simp, trivial⟩
    · rintro _ _ ⟨rfl, rfl⟩ -
      rw [wi64 (by omega) (by omega)]
      exact ⟨⟨i + 1, rfl, by simp, by omega, rfl⟩, by simp [RowKit.intOf]; omega⟩
  · have h2 : i = 2 := by simp at h; omega
    subst h2
    rw [hf2]
    refine Af (Afk (l.length + m.length) hl) ?_
    rintro v2 w2 hs2
    obtain ⟨g, hg⟩ : ∃ g : Nat → List UInt8, g = fun i => if i = 0 then [] else if i = 1 then l else l ++ m := ⟨_, rfl⟩
    have hg0 : g 0 = [] := by rw [hg]; rfl
    have hg1 : g 1 = l := by rw [hg]; rfl
    have hg2 : g 2 = l ++ m := by rw [hg]; rfl
    refine ⟨fun x y w' => ∃ i : Nat, y = .int .i64 i ∧ i ≤ 2 ∧ Sep w1 w' [ownB x (g i)], fun _ y _ => (2 - RowKit.intOf y).toNat, ⟨0, rfl, by omega, by rw [hg0]; exact hs2⟩, ?_⟩
    rintro v3 _ w3 ⟨i, rfl, hi, hs3⟩ -
    simp only [fx, Nat.reduceAdd, forall_const]
    rw [Aj]
    refine ⟨fun h => ?_, fun h => ?_⟩
    · have hlt : i = 0 ∨ i = 1 := by simp at h; omega
      have hv3 : Cel w3.heap v 1 2 [s0, s1] := hv.fr hs3.fr0 (D8 _)
      rcases hlt with rfl | rfl
      · refine ldx hv3 (j := 0) (u := s0) rfl ?_
        rw [hg0] at hs3
        refine G7 EY DE (by simp) hs3 (hs3.rdB h0) (by simp; omega) fun v4 w4 hs4 => ?_
        rw [wi64 (by omega) (by omega)]
        exact ⟨⟨1, by simp, by omega, by rw [hg1]; exact hs4⟩, by simp [RowKit.intOf]⟩
      · refine ldx hv3 (j := 1) (u := s1) rfl ?_
        rw [hg1] at hs3
        refine G7 EY DE (by simp) hs3 (hs3.rdB h1) (by omega) fun v4 w4 hs4 => ?_
        rw [wi64 (by omega) (by omega)]
        exact ⟨⟨2, by simp, by omega, by rw [hg2]; exact hs4⟩, by simp [RowKit.intOf]⟩
    · have h2 : i = 2 := by simp at h; omega
      subst h2
      rw [hg2] at hs3
      exact hR _ _ hs3
end
end Go.Fx
namespace Go.Fx
abbrev VW (n : Nat) := {l : List W32 // l.length = n}
def rW (n : Nat) : Rdr (VW n) where
  size := n
  cells l := wvs l.1
  ok _ _ := True
  len l := by simp [wvs, l.2]
  one _ := Xr _
  fr h _ := h
abbrev Q_St := Rdr.pair (rW 8) (Rdr.pair qv (Rdr.pair (rInt .i64) F0))
abbrev st (g : Nat) (h : VW 8) (s : Value) (n : Int) : Asn := blk g (Rdr.cells Q_St (h, s, n, true)).toArray JB
def P1 : VW 8 := ⟨G0, rfl⟩
section
variable {w0 w : World} {v b s : Value} {l r : List UInt8} {As : List Asn} {g : Nat} {h : VW 8} {n : Int}
theorem Aes : cal P MR [] w fun r w' => r = .agg (wvs G0).toArray ∧ Fr [] w w' := by
  refine Ack fun R hR => ?_
  unfold Td
  refine Av (Sep.start w) (A_a8 w) fun g w1 hs => ?_
  rw [Adj]
  refine Fq hs (by simp) rfl fun w2 hs => ?_
  rw [FW (n := 8) hs.blk rfl]
  exact hR _ _ ⟨rfl, hs.fr0⟩
theorem B_St (K : Value → Prop) : rdP P (Instr.build JB #[(0, .agg (wvs G0).toArray), (3, .bool true)]) w K = K (.agg (Rdr.cells Q_St (P1, .slice none 0 0, 0, true)).toArray) := DI (by kernel_rfl) K
theorem AgY : cal P Rn [] w fun r w' => ∃ g, r = .pointer (some ⟨g, 0, none⟩) ∧ Sep w w' [st g P1 (.slice none 0 0) 0] := by
  refine Ae0 fun R hR => ?_
  unfold XQ
  refine Af Aes ?_
  rintro _ w1 ⟨rfl, hf1⟩
  rw [B_St]
  refine bx_s ((Sep.start w).old hf1) fun g w2 hs => ?_
  exact hR _ _ ⟨g, rfl, hs⟩
theorem XU (hs : Sep w0 w (st g h s n :: As)) : cal P FR [.pointer (some ⟨g, 0, none⟩)] w fun r w' => r = .bool false ∧ w = w' := by
  refine TO fun R hR => ?_
  unfold LY
  simp only [fx, Nat.reduceAdd, forall_const]
  have hb := Fld.ldB (r := Q_St) (Fld.snd (Fld.snd (Fld.snd Fld.self))) hs.blk
  refine Bu ?_
  rw [show (Value.pointer (some ⟨g, 10, none⟩)) = .pointer (some ⟨g, 8 + (1 + (1 + 0)), none⟩) from rfl]
  refine (hb _).mpr ?_
  simp only [fx, Nat.reduceAdd, forall_const]
  exact hR _ _ ⟨rfl, rfl⟩
def Rest (v : Value) (l : List UInt8) (u : Value) (m : List UInt8) : Prop := ∃ a n c, u = .slice a n c ∧ n = m.length ∧ n ≤ c ∧ ∀ z : World, RdB z.heap v l → RdB z.heap u m
theorem Rest.start {a : Option Addr} {c : Nat} (hc : l.length ≤ c) : Rest (.slice a l.length c) l (.slice a l.length c) l := ⟨a, _, c, rfl, rfl, hc, fun _ h => h⟩
theorem Rest.to {u : Value} {m : List UInt8} (hr : Rest v l u m) (h64 : 64 ≤ m.length) (K : Value → Prop) (h : ∀ x, (∀ z : World, RdB z.heap v l → RdB z.heap x (m.take 64)) → K x) : slc 1 u none (some (.int .i64 64)) K := by
  obtain ⟨a, n, c, rfl, rfl, hc, hx⟩ := hr
  have := Rq (size := 1) (n := m.length) (a := a) (k := .i64) (show 64 ≤ c by omega) K
  rw [show (Value.int .i64 64) = .int .i64 ((64 : Nat) : Int) from rfl, this]
  exact h _ fun z hz => (hx z hz).take h64 c
theorem Rest.from {u : Value} {m : List UInt8} (hr : Rest v l u m) (h64 : 64 ≤ m.length) (K : Value → Prop) (h : ∀ x, Rest v l x (m.drop 64) → K x) : slc 1 u (some (.int .i64 64)) none K := by
  obtain ⟨a, n, c, rfl, rfl, hc, hx⟩ := hr
  have := AaC (size := 1) (c := c) (a := a) (k := .i64) h64 K
  rw [show (Value.int .i64 64) = .int .i64 ((64 : Nat) : Int) from rfl, this]
  exact h _ ⟨_, _, _, rfl, by simp, by omega, fun z hz => (hx z hz).drop h64 hc (c - 64)⟩
theorem Rest.len {u : Value} {m : List UInt8} (hr : Rest v l u m) (K : Value → Prop) : lenS u K = K (.int .i64 m.length) := by
  obtain ⟨a, n, c, rfl, rfl, hc, hx⟩ := hr
  exact Hp a _ c K
end
end Go.Fx
namespace Go.Fx
theorem AfW {h : List W32} {m : List UInt8} (hm : m.length = 64) : D1 h m = mixM h m := by
  rw [FV (by omega), List.take_of_length_le (by omega), List.drop_of_length_le (by omega), GL (by simp)]
section
variable {w0 w : World} {v b s : Value} {l r : List UInt8} {As : List Asn} {g : Nat} {h : VW 8} {n : Int}
theorem Ahk {hp : Heap} {t : TypeId} {fr : Nat × Nat} {a} (hg : hp[g]? = some (.cells (Rdr.cells Q_St a).toArray t fr)) (K : Value → Prop) : ldN 8 (.pointer (some ⟨g, 0, none⟩)) hp K = K (.agg (wvs a.1.1).toArray) := Fld.ldN (r := Q_St) (s := rW 8) (Fld.fst Fld.self) hg K
theorem Ag8 {hp : Heap} {t : TypeId} {fr : Nat × Nat} {a} (hg : hp[g]? = some (.cells (Rdr.cells Q_St a).toArray t fr)) (K : Value → Prop) : ld1 (.pointer (some ⟨g, 8, none⟩)) hp K = K a.2.1 := Fld.ld1 (r := Q_St) (Fld.snd (Fld.fst Fld.self)) hg K
theorem Aha {hp : Heap} {t : TypeId} {fr : Nat × Nat} {a} (hg : hp[g]? = some (.cells (Rdr.cells Q_St a).toArray t fr)) (K : Value → Prop) : ld1 (.pointer (some ⟨g, 9, none⟩)) hp K = K (.int .i64 a.2.2.1) := Fld.ldI (r := Q_St) (Fld.snd (Fld.snd (Fld.fst Fld.self))) hg K
theorem Ai3 {K : World → Prop} (hs : Sep w0 w (st g h s n :: As)) {l' : List W32} (hl : l'.length = 8) (hk : ∀ w', Sep w0 w' (st g ⟨l', hl⟩ s n :: As) → K w') : stN 8 (.pointer (some ⟨g, 0, none⟩)) (.agg (wvs l').toArray) w K :=
  Fld.stN (r := Q_St) (s := rW 8) (Fld.fst Fld.self) (b := ⟨l', hl⟩) hs (Xr _) hk
theorem AiO {K : World → Prop} (hs : Sep w0 w (st g h s n :: As)) {s' : Value} (h1 : s'.oneCell' = true) (hk : ∀ w', Sep w0 w' (st g h s' n :: As) → K w') : st1 (.pointer (some ⟨g, 8, none⟩)) s' w K :=
  Fld.stV (r := Q_St) (s := qv) (Fld.snd (Fld.fst Fld.self)) rfl hs h1 hk
theorem Ai5 {K : World → Prop} (hs : Sep w0 w (st g h s n :: As)) {n' : Int} (hk : ∀ w', Sep w0 w' (st g h s n' :: As) → K w') : st1 (.pointer (some ⟨g, 9, none⟩)) (.int .i64 n') w K :=
  Fld.stV (r := Q_St) (s := rInt .i64) (Fld.snd (Fld.snd (Fld.fst Fld.self))) rfl hs rfl hk
theorem Aef (hc : Cub w0) (hs : Sep w0 w (st g P1 (.slice none 0 0) 0 :: As)) (hv : Cel w0.heap v 1 1 [b] ∨ ∃ Bs, As = own v 1 1 [b] :: Bs) (hb : RdB w0.heap b l) (hl : l.length ≤ 100000) :
    cal P HI [.pointer (some ⟨g, 0, none⟩), v] w fun _ w' => ∃ (a r : List UInt8) (h : VW 8) (s : Value), l = a ++ r ∧ a.length % 64 = 0 ∧ r.length < 64 ∧ h.1 = D1 G0 a ∧ Sep w0 w' (st g h s l.length :: ownB s r :: As) := by
  refine SS fun R hR => ?_
  unfold Kw
  refine Af (XU hs) ?_
  rintro _ _ ⟨rfl, rfl⟩
  have hcel : ∀ {z : World} {x : Asn}, Sep w0 z (x :: As) → Cel z.heap v 1 1 [b] := fun {z x} hz => by
    rcases hv with hv | ⟨Bs, rfl⟩
    · exact hv.fr hz.fr0 (D8 _)
    · exact Sep.cel hz.p1
  obtain ⟨a, c, hva, _⟩ := id (hcel hs)
  have hlen : ∀ K, lenS v K = K (.int .i64 ((1 : Nat) : Int)) := fun K => by rw [hva, Hp]
  simp only [fx, Nat.reduceAdd, forall_const, hlen]
  refine ⟨fun x w' => ∃ i : Nat, x = .int .i64 i ∧ i ≤ 1 ∧ (i = 0 → Sep w0 w' (st g P1 (.slice none 0 0) 0 :: As)) ∧ (i = 1 → ∃ (a r : List UInt8) (h : VW 8) (s : Value), l = a ++ r ∧ a.length % 64 = 0 ∧ r.length < 64 ∧ h.1 = D1 G0 a ∧ Sep w0 w' (st g h s l.length :: ownB s r :: As)),
    fun z _ => (1 - RowKit.intOf z).toNat, ⟨0, rfl, by omega, fun _ => hs, fun h => by cases h⟩, ?_⟩
  rintro _ w1 ⟨i, rfl, hi, hi0, hi1⟩ -
  simp only [fx, Nat.reduceAdd, forall_const]
  rw [Aj]
  refine ⟨fun hlt => ?_, fun hlt => ?_⟩
  · have h0 : i = 0 := by simp at hlt; omega
    subst h0
    have hs1 := hi0 rfl
    refine ldx (hcel hs1) (j := 0) (u := b) rfl ?_
    rw [Aha hs1.blk, (hs1.rdB hb).len]
    simp only [fx, Nat.reduceAdd, forall_const]
    rw [wi64 (by omega) (by omega)]
    refine Ai5 hs1 fun w2 hs2 => ?_
    simp only [fx, Nat.reduceAdd, forall_const, Ag8 hs2.blk]
    have hbs : ∀ (w : World), (Instr.buildSlice HZ 2 #[(0, .slice none 0 0), (1, b)]).run P w = .ok (.slice (some ⟨w.heap.size, 0, none⟩) 2 2) (w.alloc (.cells ([.slice none 0 0, b] : List Value).toArray Az)) := by
      obtain ⟨a, c, rfl, _⟩ := hb
      intro w
      kernel_rfl
    refine Le (cs := [.slice none 0 0, b]) (size := 1) hs2 rfl (hbs _) fun g3 w3 hs3 => ?_
    refine Af (AcW (l := []) (m := l) (Sep.cel hs3) ⟨none, 0, rfl, rfl, .inl rfl⟩ (hs3.rdB hb) (by simp; omega)) ?_
    rintro v4 w4 hs4
    rw [List.nil_append] at hs4
    replace hs4 := (hs3.join hs4).d1.p1
    obtain ⟨a4, c4, rfl, hc4⟩ := Sep.form hs4.p1
    refine ⟨fun u w' => ∃ (k : Nat) (h : VW 8), k ≤ l.length ∧ k % 64 = 0 ∧ h.1 = D1 G0 (l.take k) ∧ Rest (.slice a4 l.length c4) l u (l.drop k) ∧ Sep w0 w' (st g h (.slice none 0 0) l.length :: ownB (.slice a4 l.length c4) l :: As), fun u _ => match u with
      | .slice _ n _ => n
      | _ => 0, ⟨0, P1, by omega, rfl, by rw [List.take_zero, GL (by simp)]; rfl, Rest.start hc4, by simpa using hs4⟩, ?_⟩
    rintro u w5 ⟨k, h5, hk, hkm, hh5, hrest, hs5⟩ -
    simp only [hrest.len, List.length_drop]
    rw [ZW, Aj]
    refine ⟨fun h => ?_, fun h => ?_⟩
    · have h64 : 64 ≤ (l.drop k).length := by simp at h ⊢; omega
      refine Hi hs5 fun w6 hs6 _ => ?_
      simp only [fx, Nat.reduceAdd, forall_const, Nt, Ahk hs6.blk]
      refine hrest.to h64 _ fun x hx => ?_
      refine BD (Af (VN (hc.fr hs6.fr0) (hx _ (Sep.rd hs6.p1)) (by rw [List.length_take]; omega) h5.2) ?_)
      rintro _ w7 ⟨rfl, hf7⟩
      have hs7 := hs6.old hf7
      refine A9 (Ai3 hs7 (N8 _ h5.2) fun w8 hs8 => ?_)
      refine hrest.from h64 _ fun u' hu' => ?_
      rw [List.drop_drop] at hu'
      have hll : k + 64 ≤ l.length := by simp at h64; omega
      refine ⟨⟨k + 64, _, hll, by omega, ?_, hu', hs8⟩, ?_⟩
      · show mixM h5.1 _ = _
        rw [hh5, List.take_add, X9 (by rw [List.length_take]; omega), AfW (m := (l.drop k).take 64) (by rw [List.length_take]; omega)]
      · obtain ⟨_, n1, _, rfl, e1, _⟩ := hrest
        obtain ⟨_, n2, _, rfl, e2, _⟩ := hu'
        simp only [List.length_drop] at e1 e2
        simp only []
        omega
    · have h64 : (l.drop k).length < 64 := by simp at h ⊢; omega
      obtain ⟨_, _, _, _, _, _, hx⟩ := id hrest
      refine Af (Nc (hx _ (Sep.rd hs5.p1)) (by rw [List.length_drop]; omega)) ?_
      rintro v6 w6 hs6
      replace hs6 := (hs5.join hs6).p1
      refine AiO hs6 (Sep.one hs6.p1) fun w7 hs7 => ?_
      rw [wi64 (by omega) (by omega)]
      refine ⟨⟨1, by simp, by omega, fun h => (by cases h), fun _ => ⟨l.take k, l.drop k, h5, v6, (List.take_append_drop k l).symm, by rw [List.length_take]; omega, h64, hh5, hs7.d2⟩⟩, by simp [RowKit.intOf]⟩
  · have h1 : i = 1 := by simp at hlt; omega
    exact hR _ _ (hi1 h1)
end
end Go.Fx
namespace Go.Fx
section
variable {w0 w : World} {v b s : Value} {l r : List UInt8} {As : List Asn} {g : Nat} {h : VW 8} {n : Nat}
theorem Agu (hc : Cub w0) (hs : Sep w0 w (st g h s n :: ownB s r :: As)) (hr : r.length < 64) (hn : n ≤ 100000) :
    cal P IE [.pointer (some ⟨g, 0, none⟩)] w fun v w' => v = .agg (bvs ((D1 h.1 (padT r n)).flatMap wOut)).toArray ∧ Sep w0 w' (st g h s n :: ownB s r :: As) := by
  refine Vs fun R hR => ?_
  unfold Ml
  refine Av hs (AS w) fun g2 w1 hs => ?_
  refine Av hs (AS w1) fun g3 w2 hs => ?_
  refine Af (XU (Sep.p2 hs)) ?_
  rintro _ _ ⟨rfl, rfl⟩
  simp only [fx, Nat.reduceAdd, forall_const, Ag8 (Sep.p2 hs).blk]
  refine Af (Nc (Sep.p3 hs).rd (by omega)) ?_
  rintro v1 w3 hs1
  replace hs1 := hs.join hs1
  refine app0 128 (.inr rfl) hs1 (by omega) fun v2 w4 hs2 => ?_
  rw [if_neg (by decide)] at hs2
  obtain ⟨Bs, hBs⟩ : ∃ Bs, Bs = blk g3 (Rdr.cells (rVec 32) (vz 32)).toArray Aa :: blk g2 (Rdr.cells (rVec 32) (vz 32)).toArray Aa :: st g h s n :: ownB s r :: As := ⟨_, rfl⟩
  have hz := AbF (r.length + 1)
  have hs2' : Sep w0 w4 (ownB v2 (r ++ [128]) :: Bs) := by rw [hBs]; exact hs2
  refine ⟨fun a w' => ∃ j : Nat, j ≤ zer (r.length + 1) ∧ Sep w0 w' (ownB a (r ++ [128] ++ List.replicate j 0) :: Bs), fun a _ => match a with
    | .slice _ n _ => (r.length + 1 + zer (r.length + 1)) - n
    | _ => 0, ⟨0, by omega, by simpa using hs2'⟩, ?_⟩
  rintro v3 w5 ⟨j, hj, hs3⟩ -
  obtain ⟨a3, c3, rfl⟩ := Sep.sl hs3
  have hlen : (r ++ [128] ++ List.replicate j 0).length = r.length + 1 + j := by simp; omega
  simp only [Hp, hlen]
  rw [Nx .i64 _ _ _ (by decide), show (64 : Int) = ((64 : Nat) : Int) from rfl, tmodn, LD, Aj]
  refine ⟨fun hq => ?_, fun hq => ?_⟩
  · have h56 : (r.length + 1 + j) % 64 ≠ 56 := by simp at hq; omega
    have hjz : j < zer (r.length + 1) := by
      rcases Nat.lt_or_ge j (zer (r.length + 1)) with h' | h'
      · exact h'
      · have : j = zer (r.length + 1) := by omega
        rw [this, ZI] at h56
        exact absurd rfl h56
    rw [← hlen]
    refine app0 0 (.inl rfl) hs3 (by rw [hlen]; omega) fun v4 w6 hs4 => ?_
    rw [if_pos rfl] at hs4
    have e : r ++ [128] ++ List.replicate j 0 ++ [0] = r ++ [128] ++ List.replicate (j + 1) 0 := by rw [List.replicate_succ', List.append_assoc]
    rw [e] at hs4
    obtain ⟨a4, c4, rfl⟩ := Sep.sl hs4
    refine ⟨⟨j + 1, by omega, hs4⟩, ?_⟩
    simp
    omega
  · have h56 : (r.length + 1 + j) % 64 = 56 := by simp at hq; omega
    have hjz : j = zer (r.length + 1) := by
      rcases Nat.lt_or_ge j (zer (r.length + 1)) with h' | h'
      · exact absurd h56 (Ae7 h')
      · omega
    rw [← hlen]
    have hst : Sep w0 w5 (st g h s n :: blk g3 (Rdr.cells (rVec 32) (vz 32)).toArray Aa :: blk g2 (Rdr.cells (rVec 32) (vz 32)).toArray Aa :: ownB s r :: As) := by
      have := hs3.tail
      rw [hBs] at this
      exact this.p2
    simp only [fx, Nat.reduceAdd, forall_const, Aha hst.blk]
    rw [ZC, Nat.mod_eq_of_lt (by omega), show ((n : Int) * 8) = ((n * 8 : Nat) : Int) by simp, ZC]
    generalize hv : n * 8 % 18446744073709551616 = x
    have hvb : x < 18446744073709551616 := by omega
    refine ⟨fun a c w' => ∃ i : Nat, c = .int .i64 i ∧ i ≤ 8 ∧ Sep w0 w' (ownB a (r ++ [128] ++ List.replicate j 0 ++ (be 8 x).take i) :: Bs), fun _ c _ => (8 - RowKit.intOf c).toNat, ⟨0, rfl, by omega, by simpa using hs3⟩, ?_⟩
    rintro v5 _ w6 ⟨i, rfl, hi, hs5⟩ -
    simp only [fx, Nat.reduceAdd, forall_const]
    rw [Aj]
    refine ⟨fun hq => ?_, fun hq => ?_⟩
    · have h8 : i < 8 := by simp at hq; omega
      have e1 : IntKind.i64.wrap (56 - IntKind.i64.wrap (8 * (i : Int))) = ((56 - 8 * i : Nat) : Int) := by
        rw [wi64 (x := 8 * (i : Int)) (by omega) (by omega), wi64 (by omega) (by omega)]
        omega
      have hsh : ∀ K, sh .shr (.int .u64 (x : Int)) (.int .i64 ((56 - 8 * i : Nat) : Int)) K = K (.int .u64 ((x / 256 ^ (7 - i) : Nat) : Int)) := fun K => by
        have := Ahe x i h8 K
        rw [Vr _ _ _ _ _ (by omega)] at this ⊢
        exact this
      rw [e1, hsh]
      rw [Gs, US _ (Int.natCast_nonneg _), Int.toNat_natCast]
      refine app1 hs5 (by simp [Cg]; omega) fun v6 w7 hs6 => ?_
      rw [wi64 (by omega) (by omega)]
      rw [List.append_assoc, ← Adc x 8 i h8] at hs6
      exact ⟨⟨i + 1, by simp, by omega, hs6⟩, by simp [RowKit.intOf]; omega⟩
    · have h8 : i = 8 := by simp at hq; omega
      subst h8
      rw [List.take_of_length_le (by rw [Cg]; omega)] at hs5
      have hpad : r ++ [128] ++ List.replicate j 0 ++ be 8 x = padT r n := by rw [padT, hv, ← hjz]
      rw [hpad] at hs5
      have hlp : (padT r n).length ≤ 200 := by
        rw [padT]
        simp [Cg]
        omega
      have hmod := ZY r n
      generalize padT r n = pad at *
      have hst5 : Sep w0 w6 (st g h s n :: blk g3 (Rdr.cells (rVec 32) (vz 32)).toArray Aa :: blk g2 (Rdr.cells (rVec 32) (vz 32)).toArray Aa :: ownB s r :: As) := by
        have := hs5.tail
        rw [hBs] at this
        exact this.p2
      simp only [fx, Nat.reduceAdd, forall_const, Ahk hst5.blk]
      refine Av hs5 (A_a8 w6) fun g4 w7 hs6 => ?_
      refine Fq hs6 (by simp) h.2 fun w8 hs7 => ?_
      obtain ⟨a5, c5, rfl, hc5⟩ := Sep.form (Sep.p1 hs7)
      refine ⟨fun u w' => ∃ (k : Nat) (h' : VW 8), k ≤ pad.length ∧ k % 64 = 0 ∧ D1 h.1 pad = D1 h'.1 (pad.drop k) ∧ Rest (.slice a5 pad.length c5) pad u (pad.drop k) ∧ Sep w0 w' (wa g4 h'.1 Bc :: ownB (.slice a5 pad.length c5) pad :: Bs), fun u _ => match u with
        | .slice _ n _ => n
        | _ => 0, ⟨0, h, by omega, rfl, rfl, Rest.start hc5, hs7⟩, ?_⟩
      rintro u w9 ⟨k, h', hk, hkm, hf, hrest, hs8⟩ -
      simp only [hrest.len, List.length_drop]
      rw [Abx, Aj]
      refine ⟨fun hlt => ?_, fun hlt => ?_⟩
      · have h64 : 64 ≤ (pad.drop k).length := by simp at hlt ⊢; omega
        refine Hi hs8 fun w10 hs9 _ => ?_
        simp only [fx, Nat.reduceAdd, forall_const, Nt]
        rw [FW hs9.blk h'.2]
        refine hrest.to h64 _ fun y hy => ?_
        refine BD (Af (VN (hc.fr hs9.fr0) (hy _ (Sep.rd hs9.p1)) (by rw [List.length_take]; omega) h'.2) ?_)
        rintro _ w11 ⟨rfl, hf11⟩
        have hs10 := hs9.old hf11
        have hml := N8 ((pad.drop k).take 64) h'.2
        refine A9 (Fq hs10 h'.2 hml fun w12 hs11 => ?_)
        refine hrest.from h64 _ fun u' hu' => ?_
        rw [List.drop_drop] at hu'
        have hll : k + 64 ≤ pad.length := by simp at h64; omega
        refine ⟨⟨k + 64, ⟨_, hml⟩, hll, by omega, ?_, hu', hs11⟩, ?_⟩
        · rw [hf, FV h64, List.drop_drop]
        · obtain ⟨_, n1, _, rfl, e1, _⟩ := hrest
          obtain ⟨_, n2, _, rfl, e2, _⟩ := hu'
          simp only [List.length_drop] at e1 e2
          simp only []
          omega
      · have hge : k = pad.length := by simp at hlt; omega
        subst hge
        rw [List.drop_length, GL (h := h'.1) (l := []) (by simp)] at hf
        rw [hf] at hR
        obtain ⟨o, ho⟩ : ∃ o, o = h'.1.flatMap wOut := ⟨_, rfl⟩
        have hol : o.length = 32 := by rw [ho, UD, h'.2]
        rw [← ho] at hR
        rw [FW hs8.blk h'.2]
        have hs9 : Sep w0 w9 (blk g3 (Rdr.cells (rVec 32) (vz 32)).toArray Aa :: blk g2 (Rdr.cells (rVec 32) (vz 32)).toArray Aa :: st g h s n :: ownB s r :: As) := by
          have := hs8.tail.tail
          rw [hBs] at this
          exact this
        have e0 : bvs (part o (4 * 0)) = Rdr.cells (rVec 32) (vz 32) := by rw [Nat.mul_zero, XV, hol]; rfl
        refine ⟨fun a w' => ∃ i : Nat, a = .int .i64 i ∧ i ≤ 8 ∧ Sep w0 w' (blk g3 (bvs (part o (4 * i))).toArray Aa :: blk g2 (Rdr.cells (rVec 32) (vz 32)).toArray Aa :: st g h s n :: ownB s r :: As),
          fun z _ => (8 - RowKit.intOf z).toNat, ⟨0, rfl, by omega, by rw [e0]; exact hs9⟩, ?_⟩
        rintro _ w10 ⟨i, rfl, hi, hs10⟩ -
        simp only [fx, Nat.reduceAdd, forall_const]
        rw [Aj]
        refine ⟨fun hlt => ?_, fun hlt => ?_⟩
        · have h8 : i < 8 := by simp at hlt; omega
          have ei : IntKind.i64.wrap (4 * (i : Int)) = ((4 * i : Nat) : Int) := by rw [wi64 (by omega) (by omega)]; omega
          have e1 : IntKind.i64.wrap (((4 * i : Nat) : Int) + 1) = ((4 * i + 1 : Nat) : Int) := by rw [wi64 (by omega) (by omega)]; omega
          have e2 : IntKind.i64.wrap (((4 * i : Nat) : Int) + 2) = ((4 * i + 2 : Nat) : Int) := by rw [wi64 (by omega) (by omega)]; omega
          have e3 : IntKind.i64.wrap (((4 * i : Nat) : Int) + 3) = ((4 * i + 3 : Nat) : Int) := by rw [wi64 (by omega) (by omega)]; omega
          have hg : ∀ m : Nat, m < 4 → o[4 * i + m]? = some (UInt8.ofNat ((h'.1.getD i 0) >>> (24 - 8 * m)).toNat) := fun m hm => by
            have h8' := h'.2
            rw [ho, AaH (by omega), show (4 * i + m) / 4 = i by omega, show (4 * i + m) % 4 = m by omega]
          rw [Ahd .i64 h'.2 h8, ei, e1, e2, e3, Oe _ .u64 24 (by decide) (by decide), w_b, Oe _ .u64 16 (by decide) (by decide), w_b, Oe _ .u64 8 (by decide) (by decide), w_b, w_b]
          rw [Cv .i64 (by omega)]
          refine st_b hs10 (hg 0 (by decide)) fun w11 hs11 => ?_
          rw [Cv .i64 (by omega)]
          refine st_b hs11 (hg 1 (by decide)) fun w12 hs12 => ?_
          rw [Cv .i64 (by omega)]
          refine st_b hs12 (hg 2 (by decide)) fun w13 hs13 => ?_
          rw [Cv .i64 (by omega)]
          refine st_b hs13 (hg 3 (by decide)) fun w14 hs14 => ?_
          rw [wi64 (by omega) (by omega)]
          exact ⟨⟨i + 1, by simp, by omega, hs14⟩, by simp [RowKit.intOf]; omega⟩
        · have h8 : i = 8 := by simp at hlt; omega
          subst h8
          have e2 : bvs (part o (4 * 8)) = Rdr.cells (rVec 32) ⟨o, hol⟩ := by
            rw [show 4 * 8 = o.length by omega, Aby]
            rfl
          rw [e2] at hs10
          simp only [Ai hs10.blk]
          refine AE hs10.p1 fun w15 hs15 => ?_
          simp only [Ai hs15.blk]
          exact hR _ _ ⟨rfl, hs15.d1.tail⟩
theorem Acq (hc : Cub w) (hb : RdB w.heap b l) (hl : l.length ≤ 100000) : cal P P0 [b] w fun v w' => v = .agg (Rdr.cells (rVec 32) (shaM l)).toArray ∧ Fr [] w w' := by
  refine Ae6 fun R hR => ?_
  unfold X2
  refine Av (Sep.start w) (AS w) fun g2 w1 hs => ?_
  refine Af AgY ?_
  rintro _ w2 ⟨g, rfl, hs1⟩
  replace hs1 := hs.join hs1
  have hbs : ∀ (w : World), (Instr.buildSlice HZ 1 #[(0, b)]).run P w = .ok (.slice (some ⟨w.heap.size, 0, none⟩) 1 1) (w.alloc (.cells ([b] : List Value).toArray Az)) := by
    obtain ⟨a, c, rfl, _⟩ := hb
    intro w
    kernel_rfl
  refine Le (cs := [b]) (size := 1) hs1 rfl (hbs _) fun g3 w3 hs3 => ?_
  refine Af (Aef hc (Sep.p1 hs3) (.inr ⟨_, rfl⟩) hb hl) ?_
  rintro _ w4 ⟨a, r, h, s, rfl, ha, hr, hh, hs4⟩
  refine Af (Agu (n := (a ++ r).length) hc hs4 hr hl) ?_
  rintro _ w5 ⟨rfl, hs5⟩
  have e : D1 h.1 (padT r (a ++ r).length) = shaL (a ++ r) := by rw [shaL, Ag5 _ _ _ ha, X9 ha, hh]
  have e2 : bvs ((D1 h.1 (padT r (a ++ r).length)).flatMap wOut) = Rdr.cells (rVec 32) (shaM (a ++ r)) := by rw [e]; rfl
  rw [e2]
  refine AE (Sep.p3 hs5) fun w6 hs6 => ?_
  simp only [Ai hs6.blk]
  exact hR _ _ ⟨rfl, hs6.fr0⟩
end
end Go.Fx
namespace Go.Fx
structure Blk where
  p : Vec 32
  h : Int
  d : List UInt8
deriving DecidableEq
def Blk.none : Blk := ⟨vz 32, 0, []⟩
def Blk.chk (b : Blk) : Int := if b.h < 0 ∨ 200 < b.d.length ∨ (b.h = 0 ∧ b.p ≠ vz 32) then 30 else 0
theorem Blk.chk_or (b : Blk) : b.chk = 0 ∨ b.chk = 30 := by unfold Blk.chk; split <;> simp
theorem Blk.chk_ok {b : Blk} (h : b.chk = 0) : 0 ≤ b.h ∧ b.d.length ≤ 200 ∧ (b.h = 0 → b.p = vz 32) := by
  unfold Blk.chk at h
  split at h
  · cases h
  · rename_i hn
    refine ⟨by omega, by omega, fun h0 => ?_⟩
    by_cases hp : b.p = vz 32
    · exact hp
    · exact absurd (.inr (.inr ⟨h0, hp⟩)) hn
abbrev bq (b : Blk) (v : Value) : Value := .agg (Rdr.cells Aw (b.p, b.h, v)).toArray
abbrev bb (g : Nat) (b : Blk) (v : Value) : Asn := blk g (Rdr.cells Aw (b.p, b.h, v)).toArray Ao
theorem IQ {w : World} (K : Value → Prop) : rdP P (Instr.build Aa #[]) w K = K (.agg (Rdr.cells (rVec 32) (vz 32)).toArray) := DI (by kernel_rfl) K
theorem bxQ {w0 w : World} {As : List Asn} {t : TypeId} {cs : Array Value} {K : Value → World → Prop} (hs : Sep w0 w As) (h : ∀ g w', Sep w0 w' (blk g cs t :: As) → K (.pointer (some ⟨g, 0, .none⟩)) w') : bx t (.agg cs) w K := bx_s hs fun g w' hs' => h g w' hs'
theorem RdB.one {h : Heap} {v : Value} {l : List UInt8} (hr : RdB h v l) : v.oneCell' = true := by obtain ⟨a, c, rfl⟩ := hr.form; rfl
section
variable {w0 w : World} {As : List Asn} {v u : Value} {a b : Blk}
theorem VL (hb : RdB w.heap v b.d) : cal P H5 [bq b v] w fun r w' => r = .int .i64 b.chk ∧ Fr [] w w' := by
  refine Yw fun R hR => ?_
  unfold OV
  refine bxQ (Sep.start w) fun g w1 hs => ?_
  have hl := (hs.rdB hb).len
  have hf := hs.fr0
  have fin : ∀ c : Int, b.chk = c → R (.int .i64 c) w1 := fun c hc => hR _ _ ⟨by rw [hc], hf⟩
  by_cases h : b.h < 0
  · simp only [h, decide_true, fx, Nat.reduceAdd, forall_const, AA hs.blk, Am hs.blk, Ap hs.blk, Ay hs.blk]
    exact fin 30 (by simp [Blk.chk, h])
  · by_cases h2 : 200 < b.d.length
    · have e : decide ((200 : Int) < b.d.length) = true := by simp; omega
      simp only [h, decide_false, e, hl, fx, Nat.reduceAdd, forall_const, AA hs.blk, Am hs.blk, Ap hs.blk, Ay hs.blk]
      exact fin 30 (by simp [Blk.chk, h2])
    · have e : decide ((200 : Int) < b.d.length) = false := by simp; omega
      by_cases h0 : b.h = 0
      · simp only [h, decide_false, e, hl, fx, Nat.reduceAdd, forall_const, AA hs.blk, Am hs.blk, Ap hs.blk, Ay hs.blk, IQ, C0, h0, show ((0 : Int) == 0) = true from rfl, show decide ((0 : Int) < 0) = false from rfl]
        rw [Aj]
        refine ⟨fun h3 => fin 30 ?_, fun h3 => fin 0 ?_⟩
        · have h3 : b.p ≠ vz 32 := by simpa using h3
          simp [Blk.chk, h0, h3]
        · have h3 : b.p = vz 32 := by simpa using h3
          unfold Blk.chk
          rw [if_neg (by rw [h3]; simp; omega)]
      · have he : (b.h == 0) = false := by simpa using h0
        simp only [h, decide_false, e, hl, fx, Nat.reduceAdd, forall_const, AA hs.blk, Am hs.blk, Ap hs.blk, Ay hs.blk, he]
        refine fin 0 ?_
        unfold Blk.chk
        rw [if_neg (by simp [h0]; omega)]
theorem AcH (hb : RdB w.heap v b.d) : cal P Kc [bq b v] w fun r w' => r = .int .i64 b.chk ∧ Fr [] w w' := by
  refine YF fun R hR => ?_
  unfold OG
  refine bxQ (Sep.start w) fun g w1 hs => ?_
  have hl := (hs.rdB hb).len
  have hf := hs.fr0
  have fin : ∀ c : Int, b.chk = c → R (.int .i64 c) w1 := fun c hc => hR _ _ ⟨by rw [hc], hf⟩
  by_cases h : b.h < 0
  · simp only [h, decide_true, fx, Nat.reduceAdd, forall_const, AA hs.blk, Am hs.blk, Ap hs.blk, Ay hs.blk]
    exact fin 30 (by simp [Blk.chk, h])
  · by_cases h2 : 200 < b.d.length
    · have e : decide ((200 : Int) < b.d.length) = true := by simp; omega
      simp only [h, decide_false, e, hl, fx, Nat.reduceAdd, forall_const, AA hs.blk, Am hs.blk, Ap hs.blk, Ay hs.blk]
      exact fin 30 (by simp [Blk.chk, h2])
    · have e : decide ((200 : Int) < b.d.length) = false := by simp; omega
      by_cases h0 : b.h = 0
      · simp only [h, decide_false, e, hl, fx, Nat.reduceAdd, forall_const, AA hs.blk, Am hs.blk, Ap hs.blk, Ay hs.blk, IQ, C0, h0, show ((0 : Int) == 0) = true from rfl, show decide ((0 : Int) < 0) = false from rfl]
        rw [Aj]
        refine ⟨fun h3 => fin 30 ?_, fun h3 => fin 0 ?_⟩
        · have h3 : b.p ≠ vz 32 := by simpa using h3
          simp [Blk.chk, h0, h3]
        · have h3 : b.p = vz 32 := by simpa using h3
          unfold Blk.chk
          rw [if_neg (by rw [h3]; simp; omega)]
      · have he : (b.h == 0) = false := by simpa using h0
        simp only [h, decide_false, e, hl, fx, Nat.reduceAdd, forall_const, AA hs.blk, Am hs.blk, Ap hs.blk, Ay hs.blk, he]
        refine fin 0 ?_
        unfold Blk.chk
        rw [if_neg (by simp [h0]; omega)]
theorem Blk.ext_iff' {a b : Blk} : a = b ↔ a.p = b.p ∧ a.h = b.h ∧ a.d = b.d := by
  cases a; cases b; simp
theorem Aeh (ha : RdB w.heap u a.d) (hb : RdB w.heap v b.d) : cal P Lw [bq a u, bq b v] w fun r w' => r = .bool (decide (a = b)) ∧ Fr [] w w' := by
  refine Aa1 fun R hR => ?_
  unfold Rg
  refine bxQ (Sep.start w) fun g w1 hs => ?_
  refine bxQ hs fun g2 w2 hs2 => ?_
  have hf := hs2.fr0
  have fin : ∀ c : Bool, decide (a = b) = c → R (.bool c) w2 := fun c hc => hR _ _ ⟨by rw [hc], hf⟩
  simp only [fx, Nat.reduceAdd, forall_const, AA hs2.blk, Am hs2.blk, Ap hs2.blk, Ay hs2.blk, AA (Sep.p1 hs2).blk, Am (Sep.p1 hs2).blk, Ap (Sep.p1 hs2).blk, Ay (Sep.p1 hs2).blk, B3]
  by_cases hp : a.p = b.p
  · simp only [hp, decide_true, fx, Nat.reduceAdd, forall_const, AA hs2.blk, Am hs2.blk, Ap hs2.blk, Ay hs2.blk, AA (Sep.p1 hs2).blk, Am (Sep.p1 hs2).blk, Ap (Sep.p1 hs2).blk, Ay (Sep.p1 hs2).blk]
    by_cases hh : a.h = b.h
    · simp only [hh, fx, Nat.reduceAdd, forall_const, beq_self_eq_true, AA hs2.blk, Am hs2.blk, Ap hs2.blk, Ay hs2.blk, AA (Sep.p1 hs2).blk, Am (Sep.p1 hs2).blk, Ap (Sep.p1 hs2).blk, Ay (Sep.p1 hs2).blk]
      refine Bu ?_
      rw [DI (Aam Ij Abl X3 (hs2.rdB ha)), DI (Aam Ij Abl X3 (hs2.rdB hb)), Ah3]
      intro _
      refine fin _ ?_
      rw [Bool.eq_iff_iff]
      simp [Blk.ext_iff', hp, hh]
    · have e : (a.h == b.h) = false := by simpa using hh
      simp only [e, fx, Nat.reduceAdd, forall_const]
      exact fin _ (by simp [Blk.ext_iff', hh])
  · simp only [hp, decide_false, fx, Nat.reduceAdd, forall_const]
    exact fin _ (by simp [Blk.ext_iff', hp])
theorem Lm (hb : RdB w.heap v b.d) (hl : b.d.length ≤ 140737488355328) : cal P Ge [bq b v] w fun r w' => ∃ v', r = bq b v' ∧ Sep w w' [ownB v' b.d] := by
  refine Ze fun R hR => ?_
  unfold OX
  refine bxQ (Sep.start w) fun g w1 hs => ?_
  refine Av hs (BF w1) fun g2 w2 hs2 => ?_
  simp only [fx, Nat.reduceAdd, forall_const, AA (Sep.p1 hs2).blk, Am (Sep.p1 hs2).blk, Ap (Sep.p1 hs2).blk, Ay (Sep.p1 hs2).blk]
  refine Af (Nc (hs2.rdB hb) hl) ?_
  rintro v' w3 hs3
  replace hs3 := (hs2.join hs3).p2
  refine JY hs3 (Sep.one hs3.p1) fun w4 hs4 => ?_
  simp only [AA hs4.blk, Am hs4.blk, Ap hs4.blk, Ay hs4.blk]
  refine Bm hs4.p2 (Bh (Sep.one hs4.p1)) fun w5 hs5 => ?_
  simp only [AA hs5.blk, Am hs5.blk, Ap hs5.blk, Ay hs5.blk]
  exact hR _ _ ⟨v', rfl, hs5.d1.tail⟩
theorem Lo (hb : RdB w.heap v b.d) (hl : b.d.length ≤ 140737488355328) : cal P F8 [bq b v] w fun r w' => ∃ v', r = bq b v' ∧ Sep w w' [ownB v' b.d] := by
  refine Y8 fun R hR => ?_
  unfold OE
  refine bxQ (Sep.start w) fun g w1 hs => ?_
  refine Av hs (BF w1) fun g2 w2 hs2 => ?_
  simp only [fx, Nat.reduceAdd, forall_const, AA (Sep.p1 hs2).blk, Am (Sep.p1 hs2).blk, Ap (Sep.p1 hs2).blk, Ay (Sep.p1 hs2).blk]
  refine G7 EY DE (by simp) hs2.nil (hs2.rdB hb) (by simp; omega) fun v' w3 hs3 => ?_
  rw [List.nil_append] at hs3
  replace hs3 := hs3.p2
  refine JY hs3 (Sep.one hs3.p1) fun w4 hs4 => ?_
  simp only [AA hs4.blk, Am hs4.blk, Ap hs4.blk, Ay hs4.blk]
  refine Bm hs4.p2 (Bh (Sep.one hs4.p1)) fun w5 hs5 => ?_
  simp only [AA hs5.blk, Am hs5.blk, Ap hs5.blk, Ay hs5.blk]
  exact hR _ _ ⟨v', rfl, hs5.d1.tail⟩
def Blk.mk' (b : Blk) : Blk := if b.chk = 0 then b else Blk.none
theorem XZ (hb : RdB w.heap v b.d) : cal P IP [bq b v] w fun r w' => ∃ v', r = .tuple #[bq b.mk' v', .int .i64 b.chk] ∧ Sep w w' [ownB v' b.mk'.d] := by
  refine Abm fun R hR => ?_
  unfold P3
  refine bxQ (Sep.start w) fun g w1 hs => ?_
  refine Av hs (BF w1) fun g2 w2 hs2 => ?_
  simp only [fx, Nat.reduceAdd, forall_const, AA (Sep.p1 hs2).blk, Am (Sep.p1 hs2).blk, Ap (Sep.p1 hs2).blk, Ay (Sep.p1 hs2).blk]
  refine Af (VL (hs2.rdB hb)) ?_
  rintro _ w3 ⟨rfl, hf3⟩
  have hs3 := hs2.old hf3
  rw [LD]
  rcases Blk.chk_or b with h0 | h0
  · have hck := Blk.chk_ok h0
    have hm : b.mk' = b := by rw [Blk.mk', if_pos h0]
    rw [hm, h0] at hR
    simp only [h0, fx, Nat.reduceAdd, forall_const, AA (Sep.p1 hs3).blk, Am (Sep.p1 hs3).blk, Ap (Sep.p1 hs3).blk, Ay (Sep.p1 hs3).blk, show ((0 : Int) != 0) = false from rfl]
    refine Af (Lm (hs3.rdB hb) (by omega)) ?_
    rintro _ w4 ⟨v', rfl, hs4⟩
    replace hs4 := (hs3.join hs4).p1
    refine Bm hs4 (Bh (Sep.one hs4.p1)) fun w5 hs5 => ?_
    simp only [AA hs5.blk, Am hs5.blk, Ap hs5.blk, Ay hs5.blk]
    exact hR _ _ ⟨v', rfl, hs5.d2.tail⟩
  · have hm : b.mk' = Blk.none := by rw [Blk.mk', if_neg (by omega)]
    rw [hm, h0] at hR
    simp only [h0, fx, Nat.reduceAdd, forall_const, HN, show ((30 : Int) != 0) = true from rfl]
    refine Bm hs3 (Bh rfl) fun w5 hs5 => ?_
    simp only [AA hs5.blk, Am hs5.blk, Ap hs5.blk, Ay hs5.blk]
    exact hR _ _ ⟨_, rfl, hs5.d1.tail.nil⟩
def Blk.first (d : List UInt8) : Blk := ⟨vz 32, 0, d⟩
theorem AdC {l : List UInt8} (hb : RdB w.heap v l) : cal P Kf [v] w fun r w' => ∃ v', r = .tuple #[bq (Blk.first l).mk' v', .int .i64 (Blk.first l).chk] ∧ Sep w w' [ownB v' (Blk.first l).mk'.d] := by
  refine Yx fun R hR => ?_
  unfold OY
  refine Av (Sep.start w) (BF w) fun g2 w2 hs2 => ?_
  rw [Zq hb.one]
  obtain ⟨b, hbb⟩ : ∃ b, b = Blk.first l := ⟨_, rfl⟩
  have e : Value.agg (Rdr.cells Aw (vz 32, (0 : Int), v)).toArray = bq b v := by rw [hbb]; rfl
  have hd : b.d = l := by rw [hbb]; rfl
  rw [← hbb] at hR
  rw [e]
  refine Af (XZ (b := b) (by rw [hd]; exact hs2.rdB hb)) ?_
  rintro _ w3 ⟨v', rfl, hs3⟩
  replace hs3 := (hs2.join hs3).p1
  simp only [fx, Nat.reduceAdd, forall_const]
  refine Bm hs3 (Bh (Sep.one hs3.p1)) fun w5 hs5 => ?_
  simp only [AA hs5.blk, Am hs5.blk, Ap hs5.blk, Ay hs5.blk]
  exact hR _ _ ⟨v', rfl, hs5.tail⟩
end
end Go.Fx
namespace Go.Fx
def Blk.bytes (b : Blk) : List UInt8 := [0, 0] ++ b.p.1 ++ be 8 b.h.toNat ++ be 4 b.d.length ++ b.d
theorem Blk.bytes_len (b : Blk) : b.bytes.length = 46 + b.d.length := by
  have := b.p.2
  simp [Blk.bytes, Cg, this]
  omega
def Blk.out (b : Blk) : List UInt8 := if b.chk = 0 then b.bytes else []
def Blk.id (b : Blk) : Vec 32 := shaM b.bytes
def Blk.name (b : Blk) : Vec 32 := if b.chk = 0 then b.id else vz 32
abbrev maxI : Int := 9223372036854775807
section
variable {w0 w : World} {As : List Asn} {v u : Value} {a b : Blk} {g : Nat}
theorem Afm (hs : Sep w0 w (bb g b v :: As)) : At w.heap g 0 (bvs b.p.1) := by
  have := (Fld.fst Fld.self : Fld Aw (rVec 32) 0 _ _).at (At.blk (cs := Rdr.cells Aw (b.p, b.h, v)) hs.blk)
  exact this
theorem AiM (hs : Sep w0 w (bb g b v :: As)) (c : Nat) : RdB w.heap (.slice (some ⟨g, 0, none⟩) 32 c) b.p.1 := by
  have := At.rd (c := c) (Afm hs)
  rwa [b.p.2] at this
theorem Aiq (hs : Sep w0 w (bb g b v :: As)) {i : Nat} (hi : i < 32) (K : Value → Prop) : ld1 (.pointer (some ⟨g, i, none⟩)) w.heap K = K (bv (b.p.1[i]'(by rw [b.p.2]; exact hi))) := by
  have hl := b.p.2
  have h1 : bvs b.p.1 = bvs (b.p.1.take i) ++ [bv (b.p.1[i]'(by omega))] ++ bvs (b.p.1.drop (i + 1)) := by
    have e : b.p.1 = b.p.1.take i ++ b.p.1[i]'(by omega) :: b.p.1.drop (i + 1) := by rw [← List.drop_eq_getElem_cons, List.take_append_drop]
    unfold bvs
    conv => lhs; rw [e]
    rw [List.map_append, List.map_cons]
    simp only [List.append_assoc, List.singleton_append]
  have ha := Afm hs
  rw [h1] at ha
  have := (ha.part (k := i) (by simp [bvs]; omega)).ld1 K
  rwa [Nat.zero_add] at this
theorem Ag7 {h : Int} (h0 : 0 ≤ h) (h1 : h ≤ maxI) : IntKind.u64.wrap h = (h.toNat : Int) := by
  unfold maxI at h1
  rw [K2 h0 (by omega)]; omega
theorem Aap (hb : RdB w.heap v b.d) (hh : b.h ≤ maxI) : cal P Ka [bq b v] w fun r w' => ∃ s, r = .tuple #[s, .int .i64 b.chk] ∧ Sep w w' [ownB s b.out] := by
  refine YP fun R hR => ?_
  unfold OO
  refine bxQ (Sep.start w) fun g w1 hs => ?_
  simp only [AA hs.blk, Am hs.blk, Ap hs.blk, Ay hs.blk]
  refine Af (VL (hs.rdB hb)) ?_
  rintro _ w2 ⟨rfl, hf2⟩
  have hs2 := hs.old hf2
  rw [LD]
  rcases Blk.chk_or b with h0 | h0
  · have hck := Blk.chk_ok h0
    have ho : b.out = b.bytes := by rw [Blk.out, if_pos h0]
    rw [ho, h0] at hR
    simp only [h0, fx, Nat.reduceAdd, forall_const, show ((0 : Int) != 0) = false from rfl]
    refine Af (NewS 246 (by omega)) ?_
    rintro _ w3 ⟨gp, rfl, hs3⟩
    replace hs3 := hs2.join hs3
    refine Af (Ain hs3 (v := 0) (by omega) (by omega) (by simp)) ?_
    rintro _ w4 ⟨rfl, s4, hs4⟩
    rw [Xy]
    refine Af (Aif hs4 (c := b.p.1) (by omega) (fun z hz => AiM hz 32) (by simp [Cg, b.p.2])) ?_
    rintro _ w5 ⟨rfl, s5, hs5⟩
    simp only [fx, Nat.reduceAdd, forall_const, AA (Sep.p2 hs5).blk, Am (Sep.p2 hs5).blk, Ap (Sep.p2 hs5).blk, Ay (Sep.p2 hs5).blk, Ag7 hck.1 hh]
    refine Af (Ai2 hs5 (by omega) (by unfold maxI at hh; omega) (by simp [Cg, b.p.2])) ?_
    rintro _ w6 ⟨rfl, s6, hs6⟩
    simp only [fx, Nat.reduceAdd, forall_const, AA (Sep.p2 hs6).blk, Am (Sep.p2 hs6).blk, Ap (Sep.p2 hs6).blk, Ay (Sep.p2 hs6).blk]
    refine Af (Aiw hs6 (by omega) (fun z hz => hz.rdB hb) (by simp [Cg, b.p.2]; omega)) ?_
    rintro _ w7 ⟨rfl, s7, hs7⟩
    refine Af (OutS hs7 (by simp [Cg, b.p.2]; omega)) ?_
    rintro _ w8 ⟨r, rfl, hs8⟩
    simp only [fx, Nat.reduceAdd, forall_const]
    have e : [] ++ be 2 0 ++ b.p.1 ++ be 8 b.h.toNat ++ (be 4 b.d.length ++ b.d) = b.bytes := by
      simp [Blk.bytes, be]
    rw [e] at hs8
    exact hR _ _ ⟨r, rfl, hs8.d1.d1.d1⟩
  · have ho : b.out = [] := by rw [Blk.out, if_neg (by omega)]
    rw [ho, h0] at hR
    simp only [h0, fx, Nat.reduceAdd, forall_const, show ((30 : Int) != 0) = true from rfl]
    exact hR _ _ ⟨_, rfl, hs2.tail.nil⟩
theorem AaL (hb : RdB w.heap v b.d) (hh : b.h ≤ maxI) : cal P Kq [bq b v] w fun r w' => ∃ s, r = .tuple #[s, .int .i64 b.chk] ∧ Sep w w' [ownB s b.out] := by
  refine Zl fun R hR => ?_
  unfold OP
  refine bxQ (Sep.start w) fun g w1 hs => ?_
  simp only [AA hs.blk, Am hs.blk, Ap hs.blk, Ay hs.blk]
  refine Af (AcH (hs.rdB hb)) ?_
  rintro _ w2 ⟨rfl, hf2⟩
  have hs2 := hs.old hf2
  rw [LD]
  rcases Blk.chk_or b with h0 | h0
  · have hck := Blk.chk_ok h0
    have hp := b.p.2
    have ho : b.out = b.bytes := by rw [Blk.out, if_pos h0]
    rw [ho, h0] at hR
    simp only [h0, fx, Nat.reduceAdd, forall_const, show ((0 : Int) != 0) = false from rfl]
    have hr : ∀ w : World, (Instr.buildSlice Az 2 #[(0, .int .u8 0), (1, .int .u8 0)]).run P w = .ok (.slice (some ⟨w.heap.size, 0, none⟩) 2 2) (w.alloc (.cells (bvs [0, 0]).toArray Ei)) := fun w => by kernel_rfl
    refine UK (l := [0, 0]) hs2 rfl (hr w2) fun g3 w3 hs3 => ?_
    refine ⟨fun x y w' => ∃ i : Nat, y = .int .i64 i ∧ i ≤ 32 ∧ Sep w w' [ownB x ([0, 0] ++ b.p.1.take i), bb g b v], fun _ y _ => (32 - RowKit.intOf y).toNat, ⟨0, rfl, by omega, by simpa using hs3⟩, ?_⟩
    rintro s4 _ w4 ⟨i, rfl, hi, hs4⟩ -
    simp only [fx, Nat.reduceAdd, forall_const]
    rw [Aj]
    refine ⟨fun h => ?_, fun h => ?_⟩
    · have h32 : i < 32 := by simp at h; omega
      rw [Cv .i64 h32, Aiq hs4.p1 h32]
      refine app1 hs4 (by simp; omega) fun s5 w5 hs5 => ?_
      rw [wi64 (by omega) (by omega)]
      refine ⟨⟨i + 1, by simp, by omega, ?_⟩, by simp [RowKit.intOf]; omega⟩
      rw [List.take_succ_eq_append_getElem (by omega), ← List.append_assoc]
      exact hs5
    · have h32 : i = 32 := by simp at h; omega
      subst h32
      rw [List.take_of_length_le (by omega)] at hs4
      simp only [fx, Nat.reduceAdd, forall_const, AA (Sep.p1 hs4).blk, Am (Sep.p1 hs4).blk, Ap (Sep.p1 hs4).blk, Ay (Sep.p1 hs4).blk, Ag7 hck.1 hh]
      refine Af (Ahc (n := 8) (by omega) (by unfold maxI at hh; omega)) ?_
      rintro t5 w5 hs5
      replace hs5 := (hs4.join hs5).p1
      refine G7 FL Ij (by simp) hs5 (Sep.rd hs5.p1) (by simp [Cg, hp]) fun s6 w6 hs6 => ?_
      replace hs6 := hs6.d1
      have hl := (hs6.rdB hb).len
      simp only [fx, Nat.reduceAdd, forall_const, AA (Sep.p1 hs6).blk, Am (Sep.p1 hs6).blk, Ap (Sep.p1 hs6).blk, Ay (Sep.p1 hs6).blk, hl]
      rw [K2 (by omega) (by omega)]
      refine Af (Ahc (n := 4) (by omega) (by omega)) ?_
      rintro t7 w7 hs7
      replace hs7 := (hs6.join hs7).p1
      refine G7 FL Ij (by simp) hs7 (Sep.rd hs7.p1) (by simp [Cg, hp]) fun s8 w8 hs8 => ?_
      replace hs8 := hs8.d1
      simp only [fx, Nat.reduceAdd, forall_const, AA (Sep.p1 hs8).blk, Am (Sep.p1 hs8).blk, Ap (Sep.p1 hs8).blk, Ay (Sep.p1 hs8).blk]
      refine G7 FL Ij (by simp) hs8 (hs8.rdB hb) (by simp [Cg, hp]; omega) fun s9 w9 hs9 => ?_
      have e : [0, 0] ++ b.p.1 ++ be 8 b.h.toNat ++ be 4 b.d.length ++ b.d = b.bytes := rfl
      rw [e] at hs9
      exact hR _ _ ⟨s9, rfl, hs9.d1⟩
  · have ho : b.out = [] := by rw [Blk.out, if_neg (by omega)]
    rw [ho, h0] at hR
    simp only [h0, fx, Nat.reduceAdd, forall_const, show ((30 : Int) != 0) = true from rfl]
    exact hR _ _ ⟨_, rfl, hs2.tail.nil⟩
theorem Qp (hc : Cub w) (hb : RdB w.heap v b.d) (hh : b.h ≤ maxI) : cal P I4 [bq b v] w fun r w' => r = .tuple #[.agg (Rdr.cells (rVec 32) b.name).toArray, .int .i64 b.chk] ∧ Fr [] w w' := by
  refine Aen fun R hR => ?_
  unfold Wq
  refine bxQ (Sep.start w) fun g w1 hs => ?_
  refine Av hs (AS w1) fun g2 w2 hs2 => ?_
  simp only [AA (Sep.p1 hs2).blk, Am (Sep.p1 hs2).blk, Ap (Sep.p1 hs2).blk, Ay (Sep.p1 hs2).blk]
  refine Af (Aap (hs2.rdB hb) hh) ?_
  rintro _ w3 ⟨s, rfl, hs3⟩
  replace hs3 := hs2.join hs3
  simp only [fx, Nat.reduceAdd, forall_const]
  rcases Blk.chk_or b with h0 | h0
  · have hck := Blk.chk_ok h0
    have ho : b.out = b.bytes := by rw [Blk.out, if_pos h0]
    have hn : b.name = shaM b.bytes := by rw [Blk.name, if_pos h0, Blk.id]
    rw [ho] at hs3
    rw [hn, h0] at hR
    simp only [h0, fx, Nat.reduceAdd, forall_const, show ((0 : Int) != 0) = false from rfl]
    refine Af (Acq (hc.fr hs3.fr0) (Sep.rd hs3) (by rw [Blk.bytes_len]; omega)) ?_
    rintro _ w4 ⟨rfl, hf4⟩
    have hs4 := (hs3.old hf4).p1
    refine AE hs4 fun w5 hs5 => ?_
    simp only [Ai hs5.blk]
    exact hR _ _ ⟨rfl, hs5.fr0⟩
  · have hn : b.name = vz 32 := by rw [Blk.name, if_neg (by omega)]
    rw [hn, h0] at hR
    simp only [h0, fx, Nat.reduceAdd, forall_const, IQ, show ((30 : Int) != 0) = true from rfl]
    refine AE hs3.p1 fun w5 hs5 => ?_
    simp only [Ai hs5.blk]
    exact hR _ _ ⟨rfl, hs5.fr0⟩
theorem AfE (hb : RdB w.heap v b.d) (hh : b.h ≤ maxI) : cal P NU [bq b v] w fun r w' => r = .tuple #[.agg (Rdr.cells (rVec 32) b.name).toArray, .int .i64 b.chk] ∧ Fr [] w w' := by
  refine Aey fun R hR => ?_
  unfold V2
  refine bxQ (Sep.start w) fun g w1 hs => ?_
  refine Av hs (AS w1) fun g2 w2 hs2 => ?_
  simp only [AA (Sep.p1 hs2).blk, Am (Sep.p1 hs2).blk, Ap (Sep.p1 hs2).blk, Ay (Sep.p1 hs2).blk]
  refine Af (AaL (hs2.rdB hb) hh) ?_
  rintro _ w3 ⟨s, rfl, hs3⟩
  replace hs3 := hs2.join hs3
  simp only [fx, Nat.reduceAdd, forall_const]
  rcases Blk.chk_or b with h0 | h0
  · have hck := Blk.chk_ok h0
    have ho : b.out = b.bytes := by rw [Blk.out, if_pos h0]
    have hn : b.name = shaM b.bytes := by rw [Blk.name, if_pos h0, Blk.id]
    rw [ho] at hs3
    rw [hn, h0] at hR
    simp only [h0, fx, Nat.reduceAdd, forall_const, show ((0 : Int) != 0) = false from rfl]
    refine Af (Agb (Sep.rd hs3) (by rw [Blk.bytes_len]; omega)) ?_
    rintro _ w4 ⟨rfl, hf4⟩
    have hs4 := (hs3.old hf4).p1
    refine AE hs4 fun w5 hs5 => ?_
    simp only [Ai hs5.blk]
    exact hR _ _ ⟨rfl, hs5.fr0⟩
  · have hn : b.name = vz 32 := by rw [Blk.name, if_neg (by omega)]
    rw [hn, h0] at hR
    simp only [h0, fx, Nat.reduceAdd, forall_const, IQ, show ((30 : Int) != 0) = true from rfl]
    refine AE hs3.p1 fun w5 hs5 => ?_
    simp only [Ai hs5.blk]
    exact hR _ _ ⟨rfl, hs5.fr0⟩
end
end Go.Fx
namespace Go.Fx
def Blk.kid (b : Blk) (d : List UInt8) : Blk := ⟨b.id, b.h + 1, d⟩
def Blk.kidOk (b : Blk) (d : List UInt8) : Prop := b.chk = 0 ∧ b.h ≠ maxI ∧ d.length ≤ 200
instance (b : Blk) (d : List UInt8) : Decidable (b.kidOk d) := by unfold Blk.kidOk; infer_instance
def Blk.child (b : Blk) (d : List UInt8) : Blk := if b.kidOk d then b.kid d else Blk.none
def Blk.childE (b : Blk) (d : List UInt8) : Int := if b.kidOk d then 0 else 30
theorem Blk.kid_chk {b : Blk} {d : List UInt8} (h : 0 ≤ b.h) : (b.kid d).chk = if 200 < d.length then 30 else 0 := by
  unfold Blk.chk Blk.kid
  by_cases hd : 200 < d.length
  · rw [if_pos (.inr (.inl hd)), if_pos hd]
  · rw [if_neg (by simp; omega), if_neg hd]
section
variable {w0 w : World} {As : List Asn} {v u : Value} {a b : Blk} {g : Nat} {d : List UInt8}
theorem Vn (hc : Cub w) (hb : RdB w.heap v b.d) (hd : RdB w.heap u d) (hh : b.h ≤ maxI) : cal P H3 [bq b v, u] w fun r w' => ∃ v', r = .tuple #[bq (b.child d) v', .int .i64 (b.childE d)] ∧ Sep w w' [ownB v' (b.child d).d] := by
  refine Yi fun R hR => ?_
  unfold OW
  refine bxQ (Sep.start w) fun g w1 hs => ?_
  refine Av hs (BF w1) fun g2 w2 hs2 => ?_
  simp only [AA (Sep.p1 hs2).blk, Am (Sep.p1 hs2).blk, Ap (Sep.p1 hs2).blk, Ay (Sep.p1 hs2).blk]
  refine Af (Qp (hc.fr hs2.fr0) (hs2.rdB hb) hh) ?_
  rintro _ w3 ⟨rfl, hf3⟩
  have hs3 := hs2.old hf3
  simp only [fx, Nat.reduceAdd, forall_const]
  refine Av hs3 (AS w3) fun g4 w4 hs4 => ?_
  refine AE hs4 fun w5 hs5 => ?_
  have bad : ¬ b.kidOk d → stN 34 (.pointer (some ⟨g2, 0, none⟩)) (bq Blk.none (.slice none 0 0)) w5 fun w => ldN 34 (.pointer (some ⟨g2, 0, none⟩)) w.heap fun r1 => R (.tuple #[r1, .int .i64 30]) w := fun hn => by
    rw [Blk.child, Blk.childE, if_neg hn, if_neg hn] at hR
    refine Bm hs5.p1 (Bh rfl) fun w6 hs6 => ?_
    simp only [AA hs6.blk, Am hs6.blk, Ap hs6.blk, Ay hs6.blk]
    exact hR _ _ ⟨_, rfl, hs6.tail.tail.tail.nil⟩
  rcases Blk.chk_or b with h0 | h0
  · have hck := Blk.chk_ok h0
    by_cases hm : b.h = maxI
    · have e : (b.h == 9223372036854775807) = true := by simpa using hm
      simp only [h0, e, fx, Nat.reduceAdd, forall_const, AA (Sep.p2 hs5).blk, Am (Sep.p2 hs5).blk, Ap (Sep.p2 hs5).blk, Ay (Sep.p2 hs5).blk, HN, show ((0 : Int) != 0) = false from rfl]
      exact bad fun hk => hk.2.1 hm
    · have e : (b.h == 9223372036854775807) = false := by simpa using hm
      have hn : b.name = b.id := by rw [Blk.name, if_pos h0]
      have hlt : b.h < 9223372036854775807 := by unfold maxI at hh hm; omega
      simp only [h0, e, fx, Nat.reduceAdd, forall_const, AA (Sep.p2 hs5).blk, Am (Sep.p2 hs5).blk, Ap (Sep.p2 hs5).blk, Ay (Sep.p2 hs5).blk, Ai hs5.blk, show ((0 : Int) != 0) = false from rfl]
      rw [wi64 (by omega) (by omega), KJ hd.one, hn]
      have hkc := Blk.kid_chk (d := d) hck.1
      have ek : Value.agg (Rdr.cells Aw (b.id, b.h + 1, u)).toArray = bq (b.kid d) u := rfl
      have hkd : (b.kid d).d = d := rfl
      obtain ⟨k, hk⟩ : ∃ k, k = b.kid d := ⟨_, rfl⟩
      rw [ek, ← hk]
      rw [← hk] at hkc hkd
      refine Af (XZ (b := k) (by rw [hkd]; exact hs5.rdB hd)) ?_
      rintro _ w6 ⟨v', rfl, hs6⟩
      replace hs6 := (hs5.join hs6).p2
      simp only [fx, Nat.reduceAdd, forall_const]
      refine Bm hs6 (Bh (Sep.one hs6.p1)) fun w7 hs7 => ?_
      simp only [AA hs7.blk, Am hs7.blk, Ap hs7.blk, Ay hs7.blk]
      refine hR _ _ ⟨v', ?_, ?_⟩
      · by_cases h2 : 200 < d.length
        · rw [if_pos h2] at hkc
          rw [Blk.mk', Blk.child, Blk.childE, if_neg (by omega), if_neg (fun hk => by have := hk.2.2; omega), if_neg (fun hk => by have := hk.2.2; omega), hkc]
        · rw [if_neg h2] at hkc
          rw [Blk.mk', Blk.child, Blk.childE, if_pos hkc, if_pos ⟨h0, hm, by omega⟩, if_pos ⟨h0, hm, by omega⟩, hk]
          rw [hk] at hkc
          rw [hkc]
      · have : k.mk' = b.child d := by
          by_cases h2 : 200 < d.length
          · rw [if_pos h2] at hkc
            rw [Blk.mk', Blk.child, if_neg (by omega), if_neg (fun hk => by have := hk.2.2; omega)]
          · rw [if_neg h2] at hkc
            rw [Blk.mk', Blk.child, if_pos hkc, if_pos ⟨h0, hm, by omega⟩, hk]
        rw [← this]
        exact hs7.p1.d1.d1.d1
  · simp only [h0, fx, Nat.reduceAdd, forall_const, HN, show ((30 : Int) != 0) = true from rfl]
    exact bad fun hk => by have := hk.1; omega
end
end Go.Fx
namespace Go.Fx
def AiU (l : List UInt8) : Vec 32 := ⟨(l ++ List.replicate 32 0).take 32, by simp⟩
def parB (l : List UInt8) : Blk := ⟨AiU (l.drop 2), ofBe ((l.drop 34).take 8), l.drop 46⟩
def okP (l : List UInt8) : Prop := 46 ≤ l.length ∧ (parB l).h ≤ maxI ∧ (parB l).chk = 0 ∧ (parB l).bytes = l
instance (l : List UInt8) : Decidable (okP l) := by unfold okP; infer_instance
theorem okP.len {l : List UInt8} (h : okP l) : l.length ≤ 246 := by
  have := (Blk.chk_ok h.2.2.1).2.1
  have hb := congrArg List.length h.2.2.2
  rw [Blk.bytes_len] at hb
  omega
section
variable {w0 w : World} {As : List Asn} {g o n n' : Nat} {cur : Array Value} {T : TypeId} {x : Value} {m : List UInt8}
end
end Go.Fx
namespace Go.Fx
end Go.Fx
namespace Go.Fx
end Go.Fx
namespace Go.Fx
abbrev BV := Blk × Value
def BV.t (x : BV) : Vec 32 × Int × Value := (x.1.p, x.1.h, x.2)
def Wn (h : Heap) (v : Value) (l : List BV) : Prop := AB Aw h v (l.map BV.t) ∧ ∀ x ∈ l, RdB h x.2 x.1.d
theorem Wn.fr {w w' : World} {v : Value} {l : List BV} (h : Wn w.heap v l) (hf : Fr [] w w') : Wn w'.heap v l := ⟨h.1.fr hf, fun x hx => (h.2 x hx).fr hf (D8 _)⟩
theorem Wn.len {h : Heap} {v : Value} {l : List BV} (hr : Wn h v l) (K : Value → Prop) : lenS v K = K (.int .i64 l.length) := by
  have := hr.1.len K
  rwa [List.length_map] at this
section
variable {w0 w : World} {As : List Asn} {v : Value}
def ga : Blk := Blk.first [103]
end
end Go.Fx
namespace Go.Fx
abbrev Ent (n : Nat) := Vec n × Value × Nat
abbrev kv {n : Nat} (k : Vec n) : Value := .agg (Rdr.cells (rVec n) k).toArray
def entM {n : Nat} (x : Ent n) : MapEntry := { key := kv x.1, val := x.2.1, born := x.2.2 }
def ents {n : Nat} (l : List (Ent n)) : Array MapEntry := (l.map entM).toArray
def CX {n : Nat} (k : Vec n) : List (Ent n) → Nat → Option (Nat × Value)
  | [], _ => none
  | x :: l, i => if k = x.1 then some (i, x.2.1) else CX k l (i + 1)
structure KeyT (P : Program) (T E n : Nat) : Prop where
  und : P.underlying T = some (.array n E)
  el : P.underlying E = some (.int .u8)
  siz : size? P E = some 1
  agg : aggr P E = some false
  eq : EqT P T (rVec n) true 2
section
variable {P : Program} {T E n : Nat} {w : World}
theorem Lg (hT : KeyT P T E n) (k : Vec n) (b : Bool) (d : Nat) : (Instr.checkKey b (d + 2) T (kv k)).run P w = .ok () w := by
  rw [show d + 2 = (d + 1) + 1 from rfl, Instr.checkKey]
  simp only [Sem.run_bind, run_underlying hT.und, Result.andThen_ok]
  simp only [Std.Legacy.Range.forIn_eq_forIn_range', Std.Legacy.Range.size, Nat.sub_zero, Nat.add_one_sub_one, Nat.div_one]
  have each : ∀ j ∈ List.range' 0 n, j < n := fun j hj => by simpa using hj
  generalize List.range' 0 n = is at each
  induction is with
  | nil => simp
  | cons j is ih =>
    have hj := each j (by simp)
    have hv : (Rdr.cells (rVec n) k).toArray[j]? = some (bv (k.1[j]'(by rw [k.2]; exact hj))) := by
      show (bvs k.1).toArray[j]? = _
      rw [List.getElem?_toArray]
      unfold bvs
      rw [List.getElem?_map, List.getElem?_eq_getElem (by rw [k.2]; exact hj)]
      rfl
    have p1 : (Go.part E (Rdr.cells (rVec n) k).toArray (j * 1)).run P w = .ok (bv (k.1[j]'(by rw [k.2]; exact hj))) w := by
      unfold Go.part
      simp [DS hT.agg, hv]
    have p2 : (Instr.checkKey b (d + 1) E (bv (k.1[j]'(by rw [k.2]; exact hj)))).run P w = .ok () w := by
      rw [Instr.checkKey]
      simp [run_underlying hT.el, bv]
    simp only [List.forIn_cons, Sem.run_bind, BS hT.siz, Result.andThen_ok, p1, p2, Sem.run_pure]
    exact ih fun y hy => each y (by simp [hy])
theorem AfI (hT : KeyT P T E n) (a b : Vec n) : (Op.equal T (kv a) (kv b)).run P w = .ok (decide (a = b)) w := hT.eq.eq 10000 (by decide) w a b
theorem AaM (hT : KeyT P T E n) (k : Vec n) : ∀ (l : List (Ent n)) (i : Nat), (Instr.findAsking T (kv k) (l.map entM) i).run P w = .ok (CX k l i) w
  | [], i => by simp [Instr.findAsking, CX]
  | x :: l, i => by
    rw [List.map_cons, Instr.findAsking]
    have h := AfI (w := w) hT k x.1
    simp only [Sem.run_bind]
    rw [show (entM x).key = kv x.1 from rfl, h]
    simp only [Result.andThen_ok, CX]
    by_cases hk : k = x.1
    · simp [hk, entM]
    · simp only [hk, decide_false, Bool.false_eq_true, if_false]
      exact AaM hT k l (i + 1)
theorem Gk (hT : KeyT P T E n) (k : Vec n) (l : List (Ent n)) : (Instr.findKey T (kv k) (ents l).toList).run P w = .ok (CX k l 0) w := by
  rw [run_findKey_eq w (by rw [hT.und])]
  exact AaM hT k l 0
theorem Is {g c : Nat} {es : Array MapEntry} (hg : w.heap[g]? = some (.map es c)) : (getObj g).run P w = .ok (.map es c) w := by simp [getObj, Sem.run, hg]
theorem NP {g c : Nat} {es : Array MapEntry} (o : Obj) (hg : w.heap[g]? = some (.map es c)) : (setObj g o).run P w = .ok () (Cj w g o) := by simp [setObj, Sem.run, hg, Cj]
def getE (k : Vec n) (l : List (Ent n)) : Option Value := (l.find? fun x => decide (k = x.1)).map (·.2.1)
theorem Ix (k : Vec n) : ∀ (l : List (Ent n)) (i : Nat), (CX k l i).map (·.2) = getE k l
  | [], i => rfl
  | x :: l, i => by
    unfold CX getE
    by_cases h : k = x.1
    · simp [h]
    · simp only [h, if_false, List.find?_cons, decide_false]
      exact Ix k l (i + 1)
theorem Wj {M V g c : Nat} {l : List (Ent n)} {z : Value} (hM : P.underlying M = some (.map T V)) (hT : KeyT P T E n) (hz : (zeroValue V).run P w = .ok z w) (hg : w.heap[g]? = some (.map (ents l) c)) (k : Vec n) (K : Value → Prop) :
    rdP P (Instr.lookup M (.map (some g)) (kv k) true) w K = K (.tuple #[(getE k l).getD z, .bool (getE k l).isSome]) := by
  refine DI ?_ K
  unfold Instr.lookup
  simp only [Sem.run_bind, run_underlying hM, Result.andThen_ok, Is hg, Sem.run_pure, Lg hT k _ 9998, Gk hT k l]
  rw [← Ix k l 0]
  cases h : CX k l 0 with
  | none => simp [hz]
  | some x => simp
theorem Tw {M V g c : Nat} {l : List (Ent n)} {z : Value} (hM : P.underlying M = some (.map T V)) (hT : KeyT P T E n) (hz : (zeroValue V).run P w = .ok z w) (hg : w.heap[g]? = some (.map (ents l) c)) (k : Vec n) (K : Value → Prop) :
    rdP P (Instr.lookup M (.map (some g)) (kv k) false) w K = K ((getE k l).getD z) := by
  refine DI ?_ K
  unfold Instr.lookup
  simp only [Sem.run_bind, run_underlying hM, Result.andThen_ok, Is hg, Sem.run_pure, Lg hT k _ 9998, Gk hT k l]
  rw [← Ix k l 0]
  cases h : CX k l 0 with
  | none => simp [hz]
  | some x => simp
theorem Afv {k : Vec n} {l : List (Ent n)} (h : getE k l = none) (i : Nat) : CX k l i = none := by
  have := Ix k l i
  rw [h] at this
  simpa using this
theorem Yb {α β : Type} (f : α → β) : ∀ (l : List α) (i : Nat), (l.map f).eraseIdx i = (l.eraseIdx i).map f
  | [], _ => by simp
  | _ :: _, 0 => rfl
  | a :: l, i + 1 => by simp [Yb f l i]
def delE (k : Vec n) (l : List (Ent n)) : List (Ent n) := match CX k l 0 with
  | some (i, _) => l.eraseIdx i
  | none => l
abbrev mp (g : Nat) (l : List (Ent n)) (c : Nat) : Asn := Asn.obj g (.map (ents l) c)
variable {w0 : World} {As : List Asn}
theorem J1 {t : TypeId} {K : Value → World → Prop} (hs : Sep w0 w As) (h : ∀ g w', Sep w0 w' (mp (n := n) g [] 0 :: As) → K (.map (some g)) w') : efP P (Instr.makeMap t none) w K :=
  ⟨.map (some w.heap.size), w.alloc (.map #[] 0), rfl, h _ _ (hs.new (Fb w _) (B := mp _ [] 0) ⟨Ez w _, rfl⟩ (by simp))⟩
theorem Sep.map {g c : Nat} {l : List (Ent n)} (hs : Sep w0 w (mp g l c :: As)) : w.heap[g]? = some (.map (ents l) c) := by
  obtain ⟨F, hF, _⟩ := hs.head
  exact hF
theorem N7 {M V g c : Nat} {l : List (Ent n)} {k : Vec n} {v : Value} {K : World → Prop} (hM : P.underlying M = some (.map T V)) (hT : KeyT P T E n) (hs : Sep w0 w (mp g l c :: As)) (hk : getE k l = none)
    (h : ∀ w', Sep w0 w' (mp g (l ++ [(k, v, c)]) (c + 1) :: As) → K w') : efU P (Instr.mapUpdate M (.map (some g)) (kv k) v) w K := by
  have hg := hs.map
  obtain ⟨F, ⟨hb, rfl⟩, hu⟩ := hs.upd
  have e : (ents l).push (entM (k, v, c)) = ents (l ++ [(k, v, c)]) := by
    apply Array.ext'
    simp [ents]
  refine ⟨Cj w g (.map (ents (l ++ [(k, v, c)])) (c + 1)), ?_, h _ (hu _ [g] (mp g _ _) ⟨DA w g _ _ hb, rfl⟩ (Ey w g _) (Grew.refl _ _))⟩
  unfold Instr.mapUpdate
  simp only [Sem.run_bind, run_underlying hM, Result.andThen_ok, Is hg, Lg hT k _ 9998, Gk hT k l, Afv hk 0]
  rw [← e]
  exact NP _ hg
theorem AiT {M V g c t ty : Nat} {l : List (Ent n)} {k : Vec n} {K : Value → World → Prop} (hM : P.underlying M = some (.map T V)) (hT : KeyT P T E n) (hs : Sep w0 w (mp g l c :: As))
    (h : ∀ w', Sep w0 w' (mp g (delE k l) c :: As) → K (.tuple #[]) w') : efP P (Builtin.delete_ #[M, t] ty #[.map (some g), kv k]) w K := by
  have hg := hs.map
  obtain ⟨F, ⟨hb, rfl⟩, hu⟩ := hs.upd
  refine ⟨.tuple #[], Cj w g (.map (ents (delE k l)) c), ?_, h _ (hu _ [g] (mp g _ _) ⟨DA w g _ _ hb, rfl⟩ (Ey w g _) (Grew.refl _ _))⟩
  unfold Builtin.delete_
  simp only [List.getElem?_toArray, List.getElem?_cons_zero, List.getElem?_cons_succ, Sem.run_bind, run_underlying hM, Result.andThen_ok, Is hg, Lg hT k _ 9998, Gk hT k l]
  unfold delE
  cases hf : CX k l 0 with
  | none => simp [NP _ hg]
  | some x =>
    obtain ⟨i, y⟩ := x
    have e : (ents l).eraseIdxIfInBounds i = ents (l.eraseIdx i) := by
      apply Array.ext'
      simp [ents, Yb]
    simp [NP _ hg, e]
theorem AhV {M V g c ty : Nat} {l : List (Ent n)} (hM : P.underlying M = some (.map T V)) (hg : w.heap[g]? = some (.map (ents l) c)) (hl : l.length ≤ 9223372036854775807) (K : Value → Prop) : rdP P (Builtin.len_ #[M] ty #[.map (some g)]) w K = K (.int .i64 l.length) := by
  refine DI ?_ K
  unfold Builtin.len_
  simp [run_underlying hM, Is hg, ents, goInt]
end
end Go.Fx
namespace Go.Fx
abbrev Vt := Vec 32 × Int
def ltV (a b : Vec 32) : Bool := decide (ofBe a.1 < ofBe b.1)
def sumV (V : List Vt) : Int := (V.map (·.2)).sum
theorem Af4 (V : List Vt) (v : Vt) : sumV (V ++ [v]) = sumV V + v.2 := by simp [sumV]
theorem E7 {V : List Vt} {i : Nat} {v : Vt} (h : V[i]? = some v) : sumV (V.take (i + 1)) = sumV (V.take i) + v.2 := by
  rw [List.take_add_one, h]
  exact Af4 _ _
def VAt (V : List Vt) (j : Nat) : Prop := ∀ v, V[j]? = some v → (∀ u, 0 < j → V[j - 1]? = some u → ltV u.1 v.1 = true) ∧ 1 ≤ v.2 ∧ v.2 ≤ 1048576 - sumV (V.take j)
def BN (V : List Vt) : Prop := ∀ j, VAt V j
open Classical in
noncomputable def bagE (V : List Vt) : Int := if BN V then 0 else 70
theorem Hg {V : List Vt} (h : BN V) : bagE V = 0 := if_pos h
theorem WW {V : List Vt} (h : ¬ BN V) : bagE V = 70 := if_neg h
theorem GK {V : List Vt} : bagE V = 0 ↔ BN V := by
  by_cases h : BN V
  · exact ⟨fun _ => h, fun _ => Hg h⟩
  · refine ⟨fun h2 => ?_, fun h2 => absurd h2 h⟩
    rw [WW h] at h2
    cases h2
theorem VAt.sum {V : List Vt} {i : Nat} (h : ∀ j, j < i → VAt V j) : 0 ≤ sumV (V.take i) ∧ sumV (V.take i) ≤ 1048576 := by
  induction i with
  | zero => simp [sumV]
  | succ i ih =>
    obtain ⟨h1, h2⟩ := ih fun j hj => h j (by omega)
    cases hv : V[i]? with
    | none =>
      have e : V.take (i + 1) = V.take i := by rw [List.take_add_one, hv]; simp
      rw [e]; exact ⟨h1, h2⟩
    | some v =>
      obtain ⟨_, h3, h4⟩ := h i (by omega) v hv
      rw [E7 hv]
      omega
theorem BN.sum {V : List Vt} (h : BN V) (i : Nat) : 0 ≤ sumV (V.take i) ∧ sumV (V.take i) ≤ 1048576 := VAt.sum fun j _ => h j
theorem BN.pos {V : List Vt} (h : BN V) : ∀ v ∈ V, 1 ≤ v.2 := fun v hv => by
  obtain ⟨i, hi⟩ := List.getElem?_of_mem hv
  exact (h i v hi).2.1
theorem BN.len {V : List Vt} (h : BN V) : V.length ≤ 1048576 := by
  have h1 : ∀ i, i ≤ V.length → (i : Int) ≤ sumV (V.take i) := fun i => by
    induction i with
    | zero => simp [sumV]
    | succ i ih =>
      intro hi
      obtain ⟨v, hv⟩ : ∃ v, V[i]? = some v := ⟨_, List.getElem?_eq_getElem (by omega)⟩
      have := (h i v hv).2.1
      have := ih (by omega)
      rw [E7 hv]
      omega
  have := h1 V.length (Nat.le_refl _)
  have := (h.sum V.length).2
  omega
def optB (c : Bool) (v : Value) : Value := bif c then v else undef
def cntV (V : List Vt) (k : Vec 32) : Int := match V.find? fun v => decide (v.1 = k) with | none => 0 | some v => v.2
open Classical in
noncomputable def DN (V : List Vt) : List Vt := if BN V then V else []
section
variable {w0 w w' : World} {v : Value} {V : List Vt}
theorem ZD {b : Vt} : ∀ u ∈ Rdr.cells Au b, u.oneCell' = true := B2 Ca oneI
theorem AfG {x y : Value} {a b : List UInt8} (hx : RdB w.heap x a) (hy : RdB w.heap y b) :
    cal P IJ [x, y] w fun v w' => v = .int .i64 (Extern.BytealgCompare.cmp ⟨a.toArray⟩ ⟨b.toArray⟩) ∧ w = w' := by
  refine Vx fun R hR => ?_
  unfold Mw
  refine ⟨_, _, ?_, hR _ _ ⟨rfl, rfl⟩⟩
  have hs : (P.funcs[Dk]?).isSome = true := by kernel_rfl
  have hf : P.funcs[Dk]? = some ((P.funcs[Dk]?).get hs) := (Option.some_get hs).symm
  rw [run_callFunc_extern (e := Extern.BytealgCompare.compare) hf (by kernel_rfl) (by kernel_rfl) (by kernel_rfl) (by kernel_rfl)]
  change (Sem.run P (do pure (goInt (Extern.BytealgCompare.cmp (← Extern.Bytes.bytesOf x) (← Extern.Bytes.bytesOf y)))) w).andThen _ = _
  simp only [Sem.run_bind, hx.bytesOf, hy.bytesOf, Result.andThen_ok, Sem.run_pure, goInt]
theorem Xl (a b : Vec 32) : cal P Km [kv a, kv b] w fun r w' => r = .int .i64 (Extern.BytealgCompare.cmp ⟨a.1.toArray⟩ ⟨b.1.toArray⟩) ∧ Fr [] w w' := by
  refine Yh fun R hR => ?_
  unfold OU
  refine bxQ (Sep.start w) fun g2 w1 hs1 => ?_
  refine bxQ hs1 fun g3 w2 hs2 => ?_
  refine A0 hs2 fun w3 hs3 _ => ?_
  rw [Xy, Xy]
  refine BD (Af (AfG (Af0 hs3.p1) (Af0 hs3)) ?_)
  rintro _ _ ⟨rfl, rfl⟩
  exact hR _ _ ⟨rfl, hs3.fr0⟩
theorem Tg (a b : Vec 32) : cal P K7 [kv a, kv b] w fun r w' => r = .bool (ltV a b) ∧ Fr [] w w' := by
  refine AeQ fun R hR => ?_
  unfold U2
  refine bxQ (Sep.start w) fun g2 w1 hs1 => ?_
  refine bxQ hs1 fun g3 w2 hs2 => ?_
  simp only [Ai hs2.p1.blk, Ai hs2.blk]
  refine Af (Xl a b) ?_
  rintro _ w3 ⟨rfl, hf3⟩
  simp only [fx, Nat.reduceAdd, forall_const]
  refine hR _ _ ⟨?_, (hs2.old hf3).fr0⟩
  have h := Aiv a.1 b.1 (by rw [a.2, b.2])
  unfold ltV
  congr 1
  exact decide_eq_decide.2 h
theorem RW {S : World → Prop} {j : Nat} {a : Vt} {K : Value → Prop} (hw : S w) (hS : ∀ u, S u → AB Au u.heap v V) (hj : V[j]? = some a) (k : IntKind) (h : K (kv a.1)) :
    ixs 33 v (.int k (j : Int)) fun t => fad 0 t fun t' => rdS S (fun w => ldN 32 t' w.heap) K := by
  obtain ⟨g, o, c, rfl⟩ := (hS w hw).form (by decide) hj
  have hlt := (List.getElem?_eq_some_iff.1 hj).1
  rw [show (33 : Nat) = (Au).size from rfl, DJ _ _ _ _ _ _ _ _ (by omega) (by omega), Int.toNat_natCast]
  simp only [fx, Nat.reduceAdd, forall_const]
  refine ⟨kv a.1, fun z hz => ?_, h⟩
  exact (Mm (At.of (by decide) (hS z hz) hj) _).mpr rfl
theorem Abb {j : Nat} {a : Vt} {K : Value → Prop} (hr : AB Au w.heap v V) (hj : V[j]? = some a) (k : IntKind) (h : K (.int .i64 a.2)) :
    ixs 33 v (.int k (j : Int)) fun t => fad 32 t fun t' => Go.Fx.ld1 t' w.heap K := by
  obtain ⟨g, o, c, rfl⟩ := hr.form (by decide) hj
  have hlt := (List.getElem?_eq_some_iff.1 hj).1
  rw [show (33 : Nat) = (Au).size from rfl, DJ _ _ _ _ _ _ _ _ (by omega) (by omega), Int.toNat_natCast]
  simp only [fx, Nat.reduceAdd, forall_const]
  exact (Jg (At.of (by decide) hr hj) _).mpr h
theorem Ads {S : World → Prop} {j : Nat} {a : Vt} {K : Value → Prop} (hw : S w) (hS : ∀ u, S u → AB Au u.heap v V) (hj : V[j]? = some a) (k : IntKind) (h : K (.int .i64 a.2)) :
    ixs 33 v (.int k (j : Int)) fun t => fad 32 t fun t' => rdS S (fun w => Go.Fx.ld1 t' w.heap) K := by
  obtain ⟨g, o, c, rfl⟩ := (hS w hw).form (by decide) hj
  have hlt := (List.getElem?_eq_some_iff.1 hj).1
  rw [show (33 : Nat) = (Au).size from rfl, DJ _ _ _ _ _ _ _ _ (by omega) (by omega), Int.toNat_natCast]
  simp only [fx, Nat.reduceAdd, forall_const]
  refine ⟨.int .i64 a.2, fun z hz => ?_, h⟩
  exact (Jg (At.of (by decide) (hS z hz) hj) _).mpr rfl
theorem LG (hr : AB Au w.heap v V) (hl : V.length ≤ 9223372036854775807) : cal P HS [v] w fun r w' => r = .int .i64 (bagE V) ∧ Fr [] w w' := by
  refine AbM fun R hR => ?_
  unfold Ty
  rw [hr.len]
  refine ⟨fun a b z => ∃ i : Nat, b = .int .i64 i ∧ i ≤ V.length ∧ a = .int .i64 (sumV (V.take i)) ∧ (∀ j, j < i → VAt V j) ∧ Fr [] w z, fun _ b _ => (V.length - RowKit.intOf b).toNat, ⟨0, rfl, by omega, by simp [sumV], fun j hj => by omega, Fr.refl _ _⟩, ?_⟩
  rintro _ _ z ⟨i, rfl, hi, rfl, hV, hf⟩ -
  obtain ⟨hs0, hs1⟩ := VAt.sum hV
  simp only [fx, Nat.reduceAdd, forall_const]
  rw [Aj]
  refine ⟨fun h => ?_, fun h => ?_⟩
  case refine_2 =>
    have hge : i = V.length := by simp at h; omega
    refine hR _ _ ⟨?_, hf⟩
    rw [Hg fun j => ?_]
    by_cases hj : j < i
    · exact hV j hj
    · intro u hu
      have := (List.getElem?_eq_some_iff.1 hu).1
      omega
  have hlt : i < V.length := by simp at h; omega
  obtain ⟨a, ha⟩ : ∃ a, V[i]? = some a := ⟨_, List.getElem?_eq_getElem hlt⟩
  have hrz := hr.fr hf
  change ixs 33 _ _ _
  refine AB.ldN (q := Au) (by decide) hrz ha .i64 ?_
  refine Av ((Sep.start w).old hf) (N9 z) fun g5 z1 hz1 => ?_
  refine MS (b := a) hz1 ZD fun z2 hz2 => ?_
  refine A0 hz2 fun z3 hz3 _ => ?_
  simp only [fx, Nat.reduceAdd, forall_const]
  classical
  obtain ⟨lt, hlt'⟩ : ∃ lt : Bool, lt = decide (∀ u, 0 < i → V[i - 1]? = some u → ltV u.1 a.1 = true) := by
    cases hp : V[i - 1]? with
    | none => exact ⟨true, by simp⟩
    | some u =>
      by_cases h0 : 0 < i
      · by_cases hc : ltV u.1 a.1 = true
        · exact ⟨true, by symm; exact decide_eq_true fun x _ hx => by cases hx; exact hc⟩
        · exact ⟨false, by symm; exact decide_eq_false fun hx => hc (hx u h0 rfl)⟩
      · exact ⟨true, by symm; exact decide_eq_true fun x hx => absurd hx h0⟩
  refine ⟨fun y z => pik (.bool (decide ((0 : Int) < (i : Int)))) y (.bool false) (fun t => t = .bool (!lt)) ∧ Sep w z [blk g5 (Rdr.cells Au a).toArray BQ], ?_, ?_⟩
  · by_cases h0 : i = 0
    · subst h0
      have hl1 : lt = true := by rw [hlt']; exact decide_eq_true fun u hu => by omega
      rw [hl1]
      simp only [fx, Nat.reduceAdd, forall_const, show decide ((0 : Int) < ((0 : Nat) : Int)) = false from rfl]
      exact ⟨trivial, hz3⟩
    · have hd0 : decide ((0 : Int) < (i : Int)) = true := by simp; omega
      obtain ⟨u, hu⟩ : ∃ u, V[i - 1]? = some u := ⟨_, List.getElem?_eq_getElem (by omega)⟩
      have hl1 : lt = ltV u.1 a.1 := by
        rw [hlt']
        cases hc : ltV u.1 a.1 with
        | true => exact decide_eq_true fun x _ hx => by rw [hu] at hx; cases hx; exact hc
        | false => exact decide_eq_false fun hx => by have := hx u (by omega) hu; rw [hc] at this; cases this
      simp only [hd0, fx, Nat.reduceAdd, forall_const]
      rw [wi64 (by omega) (by omega), show (i : Int) - 1 = ((i - 1 : Nat) : Int) by omega]
      refine RW hz3 (fun x hx => hr.fr hx.fr0) hu .i64 ?_
      refine ⟨kv a.1, fun x hx => (He (Sep.blk hx) _).mpr rfl, ?_⟩
      refine AL (Af (Tg u.1 a.1) ?_)
      rintro _ z4 ⟨rfl, hf4⟩
      have hz4 := hz3.old hf4
      refine ⟨hz4, ?_⟩
      simp only [fx, Nat.reduceAdd, forall_const]
      exact ⟨by rw [hl1], hz4⟩
  rintro y z4 ⟨hy, hz4⟩ _
  have ep : ∀ K, pik (.bool (decide ((0 : Int) < (i : Int)))) y (.bool false) K = K (.bool (!lt)) := fun K => by
    cases hd : decide ((0 : Int) < (i : Int)) with
    | true => rw [hd] at hy; rw [LT] at hy ⊢; rw [hy]
    | false => rw [hd] at hy; rw [JZ] at hy ⊢; rw [hy]
  rw [ep]
  refine ⟨fun y z => y = optB lt (.bool (decide (a.2 < 1))) ∧ Sep w z [blk g5 (Rdr.cells Au a).toArray BQ], ?_, ?_⟩
  · cases lt with
    | false => simp only [fx, Nat.reduceAdd, forall_const]; exact ⟨rfl, hz4⟩
    | true =>
      simp only [fx, Nat.reduceAdd, forall_const]
      refine AF (v := .int .i64 a.2) (fun u hu K hk => (Gj (Sep.blk hu) K).mpr hk) ?_
      simp only [fx, Nat.reduceAdd, forall_const]
      exact ⟨rfl, hz4⟩
  rintro _ z5 ⟨rfl, hz5⟩ _
  obtain ⟨bad, hbad⟩ : ∃ bad : Bool, bad = (!lt || decide (a.2 < 1)) := ⟨_, rfl⟩
  have ep2 : ∀ K, pik (.bool (!lt)) (.bool true) (optB lt (.bool (decide (a.2 < 1)))) K = K (.bool bad) := fun K => by
    rw [hbad]
    cases lt <;> simp only [fx, Nat.reduceAdd, forall_const, optB]
  rw [ep2]
  have ew : IntKind.i64.wrap (1048576 - sumV (V.take i)) = 1048576 - sumV (V.take i) := wi64 (by omega) (by omega)
  refine ⟨fun y z => y = optB (!bad) (.bool (decide (1048576 - sumV (V.take i) < a.2))) ∧ Sep w z [blk g5 (Rdr.cells Au a).toArray BQ], ?_, ?_⟩
  · cases bad with
    | true => simp only [fx, Nat.reduceAdd, forall_const]; exact ⟨rfl, hz5⟩
    | false =>
      simp only [fx, Nat.reduceAdd, forall_const]
      refine AF (v := .int .i64 a.2) (fun u hu K hk => (Gj (Sep.blk hu) K).mpr hk) ?_
      simp only [fx, Nat.reduceAdd, forall_const, ew]
      exact ⟨rfl, hz5⟩
  rintro _ z6 ⟨rfl, hz6⟩ _
  have ep3 : ∀ K, pik (.bool bad) (.bool true) (optB (!bad) (.bool (decide (1048576 - sumV (V.take i) < a.2)))) K = K (.bool (bad || decide (1048576 - sumV (V.take i) < a.2))) := fun K => by
    cases bad <;> simp only [fx, Nat.reduceAdd, forall_const, optB]
  rw [ep3, Aj, hbad]
  refine ⟨fun h => ?_, fun h => ?_⟩
  · refine hR _ _ ⟨?_, hz6.fr0⟩
    rw [WW fun hb => ?_]
    obtain ⟨h1, h2, h3⟩ := hb i a ha
    have hl1 : lt = true := by rw [hlt']; exact decide_eq_true h1
    rw [hl1] at h
    simp only [Bool.not_true, Bool.false_or, Bool.or_eq_true, decide_eq_true_eq] at h
    omega
  · have hl1 : lt = true ∧ 1 ≤ a.2 ∧ a.2 ≤ 1048576 - sumV (V.take i) := by
      simp only [Bool.or_eq_false_iff, Bool.not_eq_false', decide_eq_false_iff_not] at h
      exact ⟨h.1.1, by omega, by omega⟩
    simp only [fx, Nat.reduceAdd, forall_const, Oz hz6.blk, He hz6.blk, Gj hz6.blk]
    rw [wi64 (by omega) (by omega), wi64 (by omega) (by omega)]
    refine ⟨⟨i + 1, by simp, by omega, by rw [E7 ha], fun j hj => ?_, hz6.fr0⟩, by simp [RowKit.intOf] <;> omega⟩
    by_cases hji : j < i
    · exact hV j hji
    · obtain rfl : j = i := by omega
      intro u hu
      rw [ha] at hu
      cases hu
      exact ⟨of_decide_eq_true (hlt'.symm.trans hl1.1), hl1.2⟩
theorem S5 (hr : AB Au w.heap v V) (hl : V.length ≤ 9223372036854775807) : cal P K0 [v] w fun r w' => AB Au w'.heap r (DN V) ∧ Fr [] w w' := by
  refine Aeq fun R hR => ?_
  unfold V7
  refine Af (LG hr hl) ?_
  rintro _ w1 ⟨rfl, hf1⟩
  simp only [fx, Nat.reduceAdd, forall_const]
  rw [Aj]
  refine ⟨fun h => ?_, fun h => ?_⟩
  · have hb : ¬ BN V := fun hb => by rw [Hg hb] at h; cases h
    refine hR _ _ ⟨?_, hf1⟩
    rw [DN, if_neg hb]
    exact ⟨none, 0, rfl, by simp, .inl (by simp)⟩
  · have hb : BN V := GK.1 (by simpa using h)
    refine hR _ _ ⟨?_, hf1⟩
    rw [DN, if_pos hb]
    exact hr.fr hf1
theorem Aa9 (V : List Vt) : BN (DN V) := by
  by_cases h : BN V
  · rw [DN, if_pos h]; exact h
  · rw [DN, if_neg h]
    intro j u hu
    simp at hu
theorem AaZ (hr : AB Au w.heap v V) (hl : V.length ≤ 9223372036854775807) : cal P MH [v] w fun r w' => r = .int .i64 (sumV (DN V)) ∧ Fr [] w w' := by
  refine Acl fun R hR => ?_
  unfold Tz
  refine Af (S5 hr hl) ?_
  rintro y w1 ⟨hry, hf1⟩
  have hok := Aa9 V
  obtain ⟨G, hG⟩ : ∃ G, G = DN V := ⟨_, rfl⟩
  rw [← hG] at hry hok hR
  have hGl := hok.len
  rw [hry.len]
  refine ⟨fun a b z => ∃ i : Nat, b = .int .i64 i ∧ i ≤ G.length ∧ a = .int .i64 (sumV (G.take i)) ∧ Fr [] w1 z, fun _ b _ => (G.length - RowKit.intOf b).toNat, ⟨0, rfl, by omega, by simp [sumV], Fr.refl _ _⟩, ?_⟩
  rintro _ _ z ⟨i, rfl, hi, rfl, hf⟩ -
  simp only [fx, Nat.reduceAdd, forall_const]
  rw [Aj]
  refine ⟨fun h => ?_, fun h => ?_⟩
  case refine_2 =>
    have hge : i = G.length := by simp at h; omega
    refine hR _ _ ⟨?_, hf1.trans hf (by simp) (by simp)⟩
    rw [hge, List.take_of_length_le (Nat.le_refl _)]
  have hlt : i < G.length := by simp at h; omega
  obtain ⟨a, ha⟩ : ∃ a, G[i]? = some a := ⟨_, List.getElem?_eq_getElem hlt⟩
  change ixs 33 _ _ _
  refine AB.ldN (q := Au) (by decide) (hry.fr hf) ha .i64 ?_
  refine Av ((Sep.start w1).old hf) (N9 z) fun g5 z1 hz1 => ?_
  refine MS (b := a) hz1 ZD fun z2 hz2 => ?_
  simp only [fx, Nat.reduceAdd, forall_const, Oz hz2.blk, He hz2.blk, Gj hz2.blk]
  have h1 := hok.sum i
  have h2 := hok.sum (i + 1)
  rw [E7 ha] at h2
  rw [wi64 (by omega) (by omega), wi64 (by omega) (by omega)]
  exact ⟨⟨i + 1, by simp, by omega, by rw [E7 ha], hz2.fr0⟩, by simp [RowKit.intOf] <;> omega⟩
theorem Agd {V : List Vt} {k : Vec 32} {i : Nat} {a : Vt} (ha : V[i]? = some a) (hn : ∀ j u, j < i → V[j]? = some u → u.1 ≠ k) (hk : a.1 = k) : cntV V k = a.2 := by
  unfold cntV
  have e : V = V.take i ++ a :: V.drop (i + 1) := by
    have hlt := (List.getElem?_eq_some_iff.1 ha).1
    have h2 : V[i] = a := (List.getElem?_eq_some_iff.1 ha).2
    rw [← h2, List.getElem_cons_drop, List.take_append_drop]
  have h1 : (V.take i).find? (fun v => decide (v.1 = k)) = none := by
    rw [List.find?_eq_none]
    intro x hx
    obtain ⟨j, hj⟩ := List.getElem?_of_mem hx
    rw [List.getElem?_take] at hj
    split at hj
    · rename_i hji
      simpa using hn j x hji hj
    · cases hj
  rw [e, List.find?_append, h1, Option.none_or, List.find?_cons_of_pos (by simpa using hk)]
theorem AfF {V : List Vt} {k : Vec 32} (hn : ∀ u ∈ V, u.1 ≠ k) : cntV V k = 0 := by
  unfold cntV
  have h1 : V.find? (fun v => decide (v.1 = k)) = none := by
    rw [List.find?_eq_none]
    intro x hx
    simpa using hn x hx
  rw [h1]
theorem ZS (hr : AB Au w.heap v V) (hl : V.length ≤ 9223372036854775807) (k : Vec 32) : cal P MO [v, kv k] w fun r w' => r = .int .i64 (cntV (DN V) k) ∧ Fr [] w w' := by
  refine Acf fun R hR => ?_
  unfold Ts
  refine bxQ (Sep.start w) fun g3 w1 hs1 => ?_
  refine Af (S5 (hr.fr hs1.fr0) hl) ?_
  rintro y w2 ⟨hry, hf2⟩
  have hs2 := hs1.old hf2
  have hc3 := Sep.blk hs2
  have hok := Aa9 V
  obtain ⟨G, hG⟩ : ∃ G, G = DN V := ⟨_, rfl⟩
  rw [← hG] at hry hok hR
  have hGl := hok.len
  rw [hry.len]
  refine ⟨fun b z => ∃ i : Nat, b = .int .i64 i ∧ i ≤ G.length ∧ (∀ j u, j < i → G[j]? = some u → u.1 ≠ k) ∧ Fr [] w2 z, fun b _ => (G.length - RowKit.intOf b).toNat, ⟨0, rfl, by omega, fun j u hj => by omega, Fr.refl _ _⟩, ?_⟩
  rintro _ z ⟨i, rfl, hi, hn, hf⟩ -
  simp only [fx, Nat.reduceAdd, forall_const]
  rw [Aj]
  refine ⟨fun h => ?_, fun h => ?_⟩
  case refine_2 =>
    have hge : i = G.length := by simp at h; omega
    refine hR _ _ ⟨?_, (hs2.old hf).fr0⟩
    rw [AfF fun u hu => ?_]
    obtain ⟨j, hj⟩ := List.getElem?_of_mem hu
    exact hn j u (by have := (List.getElem?_eq_some_iff.1 hj).1; omega) hj
  have hlt : i < G.length := by simp at h; omega
  obtain ⟨a, ha⟩ : ∃ a, G[i]? = some a := ⟨_, List.getElem?_eq_getElem hlt⟩
  change ixs 33 _ _ _
  refine AB.ldN (q := Au) (by decide) (hry.fr hf) ha .i64 ?_
  refine Av ((Sep.start w2).old hf) (N9 z) fun g5 z1 hz1 => ?_
  have hc3z := fun (u : World) (hu : Fr [] w2 u) => hu.blk hc3 (by simp)
  refine MS (b := a) hz1 ZD fun z2 hz2 => ?_
  simp only [fx, Nat.reduceAdd, forall_const, Oz hz2.blk, He hz2.blk, Gj hz2.blk, Ai (hc3z _ hz2.fr0), B3]
  rw [Aj]
  refine ⟨fun h2 => ?_, fun h2 => ?_⟩
  · exact hR _ _ ⟨by rw [Agd ha hn (by simpa using h2)], (hs2.old hz2.fr0).fr0⟩
  · rw [wi64 (by omega) (by omega)]
    refine ⟨⟨i + 1, by simp, by omega, fun j u hj hu => ?_, ?_⟩, by simp [RowKit.intOf] <;> omega⟩
    · by_cases hji : j < i
      · exact hn j u hji hu
      · obtain rfl : j = i := by omega
        rw [ha] at hu
        cases hu
        simpa using h2
    · exact hz2.fr0
end
end Go.Fx
namespace Go.Fx
def ahead (V : List Vt) (k : Vec 32) : Nat := (V.takeWhile fun v => ltV v.1 k).length
def putM (V : List Vt) (k : Vec 32) (n : Int) : List Vt :=
  if n = 0 then V else V.take (ahead V k) ++ (match V[ahead V k]? with
    | some v => if v.1 = k then (k, n + v.2) :: V.drop (ahead V k + 1) else (k, n) :: V.drop (ahead V k)
    | none => [(k, n)])
open Classical in
noncomputable def addB (V : List Vt) (k : Vec 32) (n : Int) : List Vt × Int :=
  if bagE V ≠ 0 then ([], 70) else if n < 0 then ([], 1) else if 1048576 - sumV V < n then ([], 6) else (putM V k n, 0)
theorem AgP (V : List Vt) (k : Vec 32) : ahead V k ≤ V.length := (List.takeWhile_sublist _).length_le
theorem Agz (V : List Vt) (k : Vec 32) (n : Int) : (putM V k n).length ≤ V.length + 1 := by
  unfold putM
  split
  · omega
  · have h := AgP V k
    rw [List.length_append, List.length_take]
    cases hv : V[ahead V k]? with
    | none => simp; omega
    | some v =>
      have hlt := (List.getElem?_eq_some_iff.1 hv).1
      simp only
      split <;> simp <;> omega
theorem Agw {V : List Vt} {k : Vec 32} {i : Nat} (h1 : ∀ j v, j < i → V[j]? = some v → ltV v.1 k = true) (hi : i ≤ V.length) (h2 : ∀ v, V[i]? = some v → ltV v.1 k = false) : ahead V k = i := by
  unfold ahead
  induction V generalizing i with
  | nil => simp at hi; simp [hi]
  | cons v V ih =>
    cases i with
    | zero =>
      have := h2 v rfl
      rw [List.takeWhile_cons_of_neg (by simp [this])]
      rfl
    | succ i =>
      have := h1 0 v (by omega) rfl
      rw [List.takeWhile_cons_of_pos (p := fun v : Vt => ltV v.1 k) this, List.length_cons, ih (i := i) (fun j u hj hu => h1 (j + 1) u (by omega) hu) (by simpa using hi) (fun u hu => h2 u hu)]
theorem AgD {a b : List UInt8} (hl : a.length = b.length) {i : Nat} {x y : UInt8} (hx : a[i]? = some x) (hy : b[i]? = some y) (he : a.take i = b.take i) (hne : x ≠ y) : (ofBe a < ofBe b) ↔ x < y := by
  have ha : a = a.take i ++ x :: a.drop (i + 1) := by
    have h := List.getElem?_eq_some_iff.1 hx
    rw [← h.2, List.getElem_cons_drop, List.take_append_drop]
  have hb : b = b.take i ++ y :: b.drop (i + 1) := by
    have h := List.getElem?_eq_some_iff.1 hy
    rw [← h.2, List.getElem_cons_drop, List.take_append_drop]
  have hd : (a.drop (i + 1)).length = (b.drop (i + 1)).length := by simp [hl]
  rw [ha, hb, ← he, HO, HO, Mq, Mq, List.length_cons, List.length_cons, hd]
  have h1 := RU (a.drop (i + 1))
  have h2 := RU (b.drop (i + 1))
  rw [hd] at h1
  generalize 256 ^ (b.drop (i + 1)).length = q at *
  rw [UInt8.lt_iff_toNat_lt]
  have hne2 : x.toNat ≠ y.toNat := fun h => hne (UInt8.toNat_inj.1 h)
  constructor
  · intro h
    rcases Nat.lt_or_ge x.toNat y.toNat with hlt | hge
    · exact hlt
    · exfalso
      have : (y.toNat + 1) * q ≤ x.toNat * q := Nat.mul_le_mul_right _ (by omega)
      rw [Nat.add_mul, Nat.one_mul] at this
      omega
  · intro h
    have : (x.toNat + 1) * q ≤ y.toNat * q := Nat.mul_le_mul_right _ h
    rw [Nat.add_mul, Nat.one_mul] at this
    omega
end Go.Fx
namespace Go.Fx
theorem Lj {d : Bool} {w : World} {A : (Value → World → Prop) → Prop} {rest : Env → Value → World → Prop} (c : Bool) (Q : World → Prop) (hA : d = true → A fun y z => y = .bool c ∧ Q z) (hn : d = false → c = false ∧ Q w)
    (hr : ∀ y z, (∀ K, pik (.bool d) y (.bool false) K = K (.bool c)) → Q z → ∀ junk, rest junk y z) : jn1 (fun k => gif (.bool d) true (A k) (k undef w)) rest := by
  refine ⟨fun y z => (∀ K, pik (.bool d) y (.bool false) K = K (.bool c)) ∧ Q z, ?_, fun y z h => hr y z h.1 h.2⟩
  cases d with
  | true =>
    rw [Jn]
    have e : (fun y z => y = .bool c ∧ Q z) = (fun y z => (∀ K, pik (.bool true) y (.bool false) K = K (.bool c)) ∧ Q z) := by
      funext y z
      simp only [LT]
      refine propext ⟨fun ⟨h1, h2⟩ => ⟨fun K => by rw [h1], h2⟩, fun ⟨h1, h2⟩ => ⟨?_, h2⟩⟩
      have := h1 fun t => t = .bool c
      simp only [eq_self] at this
      exact this.mpr trivial
    have := hA rfl
    rw [e] at this
    exact this
  | false =>
    obtain ⟨h1, h2⟩ := hn rfl
    rw [Wi]
    exact ⟨fun K => by rw [JZ, h1], h2⟩
theorem Agv {d : Bool} {w : World} {A : (Value → World → Prop) → Prop} {rest : Env → Value → World → Prop} (c : Bool) (Q : World → Prop) (hA : d = false → A fun y z => y = .bool c ∧ Q z) (hn : d = true → c = true ∧ Q w)
    (hr : ∀ y z, (∀ K, pik (.bool d) (.bool true) y K = K (.bool c)) → Q z → ∀ junk, rest junk y z) : jn1 (fun k => gif (.bool d) false (A k) (k undef w)) rest := by
  refine ⟨fun y z => (∀ K, pik (.bool d) (.bool true) y K = K (.bool c)) ∧ Q z, ?_, fun y z h => hr y z h.1 h.2⟩
  cases d with
  | false =>
    rw [Jn]
    have e : (fun y z => y = .bool c ∧ Q z) = (fun y z => (∀ K, pik (.bool false) (.bool true) y K = K (.bool c)) ∧ Q z) := by
      funext y z
      simp only [JZ]
      refine propext ⟨fun ⟨h1, h2⟩ => ⟨fun K => by rw [h1], h2⟩, fun ⟨h1, h2⟩ => ⟨?_, h2⟩⟩
      have := h1 fun t => t = .bool c
      simp only [eq_self] at this
      exact this.mpr trivial
    have := hA rfl
    rw [e] at this
    exact this
  | true =>
    obtain ⟨h1, h2⟩ := hn rfl
    rw [UX]
    exact ⟨fun K => by rw [LT, h1], h2⟩
theorem Vd (l : List Vt) : ∀ u ∈ l.flatMap (Rdr.cells Au), u.oneCell' = true := fun u hu => by
  obtain ⟨x, hx, hu⟩ := List.mem_flatMap.1 hu
  exact ZD u hu
section
variable {w0 w w' : World} {As : List Asn} {v : Value} {V : List Vt} {a0 : Option Addr} {c0 : Nat}
theorem AaT (a b : Vec 32) : cal P G8 [kv a, kv b] w fun r w' => r = .bool (ltV a b) ∧ Fr [] w w' := by
  refine ZL fun R hR => ?_
  unfold Q1
  refine bxQ (Sep.start w) fun g2 w1 hs1 => ?_
  refine bxQ hs1 fun g3 w2 hs2 => ?_
  have ha := a.2
  have hb := b.2
  refine ⟨fun y z => ∃ i : Nat, y = .int .i64 i ∧ i ≤ 32 ∧ a.1.take i = b.1.take i ∧ Sep w z [blk g3 (Rdr.cells (rVec 32) b).toArray Aa, blk g2 (Rdr.cells (rVec 32) a).toArray Aa], fun y _ => (32 - RowKit.intOf y).toNat, ⟨0, rfl, by omega, rfl, hs2⟩, ?_⟩
  rintro _ z ⟨i, rfl, hi, he, hz⟩ -
  try simp only [fx, Nat.reduceAdd, forall_const]
  rw [Aj]
  refine ⟨fun h => ?_, fun h => ?_⟩
  case refine_2 =>
    have hi32 : i = 32 := by simp at h; omega
    subst hi32
    rw [List.take_of_length_le (by omega), List.take_of_length_le (by omega)] at he
    refine hR _ _ ⟨?_, hz.fr0⟩
    unfold ltV
    rw [he]
    simp
  have hlt : i < 32 := by simp at h; omega
  have byte : ∀ {z : World} {g : Nat} {x : Vec 32} {T : TypeId} {Bs : List Asn}, Sep w z (blk g (Rdr.cells (rVec 32) x).toArray T :: Bs) → ∀ (hx : i < x.1.length) {K : Value → Prop}, K (.int .u8 (x.1[i]'hx).toNat) → ld1 (.pointer (some ⟨g, i, none⟩)) z.heap K := fun {z g x T Bs} hz hx {K} hk => by
    refine Co (v := bv (x.1[i]'hx)) (Sep.blk hz) ?_ hk
    show (bvs x.1).toArray[i]? = _
    simp [bvs, hx]
  refine CT hz fun z2 hz2 _ => ?_
  rw [Cv .i64 hlt]
  refine byte hz2.p1 (by omega) ?_
  rw [Cv .i64 hlt]
  refine byte hz2 (by omega) ?_
  try simp only [fx, Nat.reduceAdd, forall_const]
  rw [Aj]
  have hxa : a.1[i]? = some (a.1[i]'(by omega)) := List.getElem?_eq_getElem _
  have hxb : b.1[i]? = some (b.1[i]'(by omega)) := List.getElem?_eq_getElem _
  refine ⟨fun h2 => ?_, fun h2 => ?_⟩
  · have hne : a.1[i]'(by omega) ≠ b.1[i]'(by omega) := fun hq => by rw [hq] at h2; simp at h2
    refine CT hz2 fun z3 hz3 _ => ?_
    rw [Cv .i64 hlt]
    refine byte hz3.p1 (by omega) ?_
    rw [Cv .i64 hlt]
    refine byte hz3 (by omega) ?_
    try simp only [fx, Nat.reduceAdd, forall_const]
    refine hR _ _ ⟨?_, hz3.fr0⟩
    have h3 := AgD (by rw [ha, hb]) hxa hxb he hne
    unfold ltV
    congr 1
    refine decide_eq_decide.2 ?_
    rw [h3, UInt8.lt_iff_toNat_lt]
    omega
  · have heq : a.1[i]'(by omega) = b.1[i]'(by omega) := by
      have h2 : ((a.1[i]'(by omega)).toNat : Int) = ((b.1[i]'(by omega)).toNat : Int) := by simpa using h2
      exact UInt8.toNat_inj.1 (by omega)
    rw [wi64 (by omega) (by omega)]
    refine ⟨⟨i + 1, by simp, by omega, ?_, hz2⟩, by simp [RowKit.intOf] <;> omega⟩
    rw [List.take_add_one, List.take_add_one, he, hxa, hxb, heq]
theorem RO (hr : AB Au w.heap v V) (hl : V.length ≤ 9223372036854775807) : cal P EU [v] w fun r w' => r = .int .i64 (bagE V) ∧ Fr [] w w' := by
  refine Yy fun R hR => ?_
  unfold OR
  refine ⟨fun a b z => ∃ i : Nat, b = .int .i64 i ∧ i ≤ V.length ∧ a = .int .i64 (1048576 - sumV (V.take i)) ∧ (∀ j, j < i → VAt V j) ∧ Fr [] w z, fun _ b _ => (V.length - RowKit.intOf b).toNat, ⟨0, rfl, by omega, by simp [sumV], fun j hj => by omega, Fr.refl _ _⟩, ?_⟩
  rintro _ _ z ⟨i, rfl, hi, rfl, hV, hf⟩ -
  obtain ⟨hs0, hs1⟩ := VAt.sum hV
  rw [hr.len]
  try simp only [fx, Nat.reduceAdd, forall_const]
  rw [Aj]
  refine ⟨fun h => ?_, fun h => ?_⟩
  case refine_2 =>
    have hge : i = V.length := by simp at h; omega
    refine hR _ _ ⟨?_, hf⟩
    rw [Hg fun j => ?_]
    by_cases hj : j < i
    · exact hV j hj
    · intro u hu
      have := (List.getElem?_eq_some_iff.1 hu).1
      omega
  have hlt : i < V.length := by simp at h; omega
  obtain ⟨a, ha⟩ : ∃ a, V[i]? = some a := ⟨_, List.getElem?_eq_getElem hlt⟩
  have hsz : Sep w z [] := (Sep.start w).old hf
  have hno : ∀ z, Fr [] w z → (¬ VAt V i) → R (.int .i64 70) z := fun z hz hb => hR _ _ ⟨by rw [WW fun h => hb (h i)], hz⟩
  have hro : ∀ u, Sep w u [] → AB Au u.heap v V := fun u hu => hr.fr hu.fr0
  have hyes : ∀ z, Fr [] w z → VAt V i → ixs 33 v (.int .i64 (i : Int)) fun t48 => fad 32 t48 fun t49 => ld1 t49 z.heap fun t50 => bi .sub (.int .i64 (1048576 - sumV (V.take i))) t50 fun t51 => bi .add (.int .i64 (i : Int)) (.int .i64 1) fun t10 =>
      (∃ i : Nat, t10 = .int .i64 i ∧ i ≤ V.length ∧ t51 = .int .i64 (1048576 - sumV (V.take i)) ∧ (∀ j, j < i → VAt V j) ∧ Fr [] w z) ∧ (V.length - RowKit.intOf t10).toNat < (V.length - RowKit.intOf (.int .i64 (i : Int))).toNat := fun z hz hv => by
    refine Abb (hr.fr hz) ha .i64 ?_
    obtain ⟨_, h2, h3⟩ := hv a ha
    try simp only [fx, Nat.reduceAdd, forall_const]
    rw [wi64 (by omega) (by omega), wi64 (by omega) (by omega)]
    refine ⟨⟨i + 1, by simp, by omega, ?_, fun j hj => ?_, hz⟩, by simp [RowKit.intOf] <;> omega⟩
    · rw [E7 ha]
      congr 1
      omega
    · by_cases hji : j < i
      · exact hV j hji
      · obtain rfl : j = i := by omega
        exact hv
  refine A0 hsz fun z2 hz2 _ => ?_
  refine Ads hz2 hro ha .i64 ?_
  try simp only [fx, Nat.reduceAdd, forall_const]
  by_cases h1 : a.2 < 1
  · simp only [decide_eq_true h1, fx, Nat.reduceAdd, forall_const]
    exact hno _ hz2.fr0 fun hv => by have := (hv a ha).2.1; omega
  simp only [decide_eq_false h1, fx, Nat.reduceAdd, forall_const]
  refine ⟨fun y z => y = .bool (decide (1048576 - sumV (V.take i) < a.2)) ∧ Sep w z [], ?_, ?_⟩
  · refine Ads hz2 hro ha .i64 ?_
    try simp only [fx, Nat.reduceAdd, forall_const]
    exact ⟨by first | rfl | trivial, hz2⟩
  rintro _ z3 ⟨rfl, hz3⟩ _
  by_cases h2 : 1048576 - sumV (V.take i) < a.2
  · simp only [decide_eq_true h2, fx, Nat.reduceAdd, forall_const]
    exact hno _ hz3.fr0 fun hv => by have := (hv a ha).2.2; omega
  simp only [decide_eq_false h2, fx, Nat.reduceAdd, forall_const]
  by_cases h3 : i = 0
  · subst h3
    simp only [show decide ((0 : Int) < ((0 : Nat) : Int)) = false from rfl, show decide (((0 : Nat) : Int) > 0) = false from rfl, fx, Nat.reduceAdd, forall_const]
    have := hyes _ hz3.fr0 fun v hv => by
      rw [ha] at hv
      cases hv
      exact ⟨fun u h0 => absurd h0 (by omega), by omega, by omega⟩
    try simp only [fx, Nat.reduceAdd, forall_const] at this ⊢
    exact this
  have e3 : decide ((0 : Int) < (i : Int)) = true := decide_eq_true (by omega)
  have e4 : decide ((i : Int) > 0) = true := decide_eq_true (by omega)
  obtain ⟨u, hu⟩ : ∃ u, V[i - 1]? = some u := ⟨_, List.getElem?_eq_getElem (by omega)⟩
  simp only [e3, e4, fx, Nat.reduceAdd, forall_const]
  refine ⟨fun y z => y = .bool (!ltV u.1 a.1) ∧ Sep w z [], ?_, ?_⟩
  · rw [wi64 (by omega) (by omega), show (i : Int) - 1 = ((i - 1 : Nat) : Int) by omega]
    refine RW hz3 hro hu .i64 ?_
    refine RW hz3 hro ha .i64 ?_
    refine AL (Af (AaT u.1 a.1) ?_)
    rintro _ z4 ⟨rfl, hf4⟩
    have hz4 := hz3.old hf4
    refine ⟨hz4, ?_⟩
    try simp only [fx, Nat.reduceAdd, forall_const]
    exact ⟨by first | rfl | trivial, hz4⟩
  rintro _ z4 ⟨rfl, hz4⟩ _
  try simp only [fx, Nat.reduceAdd, forall_const]
  cases hlv : ltV u.1 a.1 with
  | false =>
    try simp only [fx, Nat.reduceAdd, forall_const]
    exact hno _ hz4.fr0 fun hv => by
      have := (hv a ha).1 u (by omega) hu
      rw [hlv] at this
      cases this
  | true =>
    try simp only [fx, Nat.reduceAdd, forall_const]
    have := hyes _ hz4.fr0 fun v hv => by
      rw [ha] at hv
      cases hv
      exact ⟨fun u' _ hu' => by rw [hu] at hu'; cases hu'; exact hlv, by omega, by omega⟩
    try simp only [fx, Nat.reduceAdd, forall_const] at this ⊢
    exact this
end
end Go.Fx
namespace Go.Fx
section
variable {w0 w w' : World} {As : List Asn} {v : Value} {V : List Vt} {a0 : Option Addr} {c0 : Nat}
theorem Adq (hr : AB Au w.heap v V) (hl : V.length ≤ 1000000) : cal P HY [v] w fun r w' => r = .int .i64 (sumV (DN V)) ∧ Fr [] w w' := by
  refine Yz fun R hR => ?_
  unfold OH
  refine ⟨fun a b z => ∃ i : Nat, b = .int .i64 i ∧ i ≤ V.length ∧ a = .int .i64 (sumV ((DN V).take i)) ∧ (i = 0 ∨ BN V) ∧ Fr [] w z, fun _ b _ => (V.length - RowKit.intOf b).toNat, ⟨0, rfl, by omega, by simp [sumV], .inl rfl, Fr.refl _ _⟩, ?_⟩
  rintro _ _ z ⟨i, rfl, hi, rfl, hb0, hf⟩ -
  rw [hr.len]
  try simp only [fx, Nat.reduceAdd, forall_const]
  refine Lj (decide ((i : Int) < V.length) && decide (bagE V = 0)) (fun u => Fr [] w u) (fun hd => ?_) (fun hd => ⟨by rw [hd]; rfl, hf⟩) ?_
  · refine Af (RO (hr.fr hf) (by omega)) ?_
    rintro _ z1 ⟨rfl, hf1⟩
    try simp only [fx, Nat.reduceAdd, forall_const]
    refine ⟨?_, hf.trans hf1 (by simp) (by simp)⟩
    rw [hd, Bool.true_and]
    congr 1
  intro y z1 hy hf1 _
  rw [hy, Aj]
  refine ⟨fun h => ?_, fun h => ?_⟩
  · simp only [Bool.and_eq_true, decide_eq_true_eq] at h
    have hb := GK.1 h.2
    have hG : DN V = V := by rw [DN, if_pos hb]
    rw [hG]
    have hlt : i < V.length := by omega
    obtain ⟨a, ha⟩ : ∃ a, V[i]? = some a := ⟨_, List.getElem?_eq_getElem hlt⟩
    refine Abb (hr.fr hf1) ha .i64 ?_
    have h1 := hb.sum i
    have h2 := hb.sum (i + 1)
    rw [E7 ha] at h2
    try simp only [fx, Nat.reduceAdd, forall_const]
    rw [wi64 (by omega) (by omega), wi64 (by omega) (by omega)]
    refine ⟨⟨i + 1, by simp, by omega, by rw [E7 ha], .inr hb, hf1⟩, by simp [RowKit.intOf] <;> omega⟩
  · refine hR _ _ ⟨?_, hf1⟩
    by_cases hb : BN V
    · have hG : DN V = V := by rw [DN, if_pos hb]
      rw [hG]
      have : ¬ (i : Int) < V.length := fun hq => by
        simp [Hg hb, hq] at h
      rw [List.take_of_length_le (by omega)]
    · have hG : DN V = [] := by rw [DN, if_neg hb]
      rw [hG]
      simp
theorem AiX (hr : AB Au w.heap (.slice a0 V.length c0) V) (hc : V.length ≤ c0) (hb : BN V) (k : Vec 32) {n : Int} (hn0 : 0 ≤ n) (hn : n ≤ 1048576) (hl : V.length ≤ 1000000) :
    cal P M5 [.slice a0 V.length c0, kv k, .int .i64 n] w fun r w' => Sep w w' [rows Au r (putM V k n)] := by
  refine Ab1 fun R hR => ?_
  unfold Tt
  refine bxQ (Sep.start w) fun g4 w1 hs1 => ?_
  try simp only [fx, Nat.reduceAdd, forall_const]
  rw [Aj]
  refine ⟨fun h => ?_, fun h => ?_⟩
  · have h : n = 0 := by simpa using h
    refine BX DT Gc (by simp) (Sep.nilR (q := Au) hs1) (hr.fr hs1.fr0) (Vd _) (by simp; omega) (by simp; omega) fun v2 w2 hs2 => ?_
    rw [List.nil_append] at hs2
    refine hR _ _ ?_
    unfold putM
    rw [if_pos h]
    exact hs2.d1
  have hn1 : n ≠ 0 := by simpa using h
  refine ⟨fun y z => ∃ i : Nat, y = .int .i64 i ∧ i ≤ V.length ∧ (∀ j u, j < i → V[j]? = some u → ltV u.1 k = true) ∧ Sep w z [blk g4 (Rdr.cells (rVec 32) k).toArray Aa], fun y _ => (V.length - RowKit.intOf y).toNat, ⟨0, rfl, by omega, fun j u hj => by omega, hs1⟩, ?_⟩
  rintro _ z ⟨i, rfl, hi, hlt, hz⟩ -
  refine A0 hz fun z1 hz1 _ => ?_
  have hro : ∀ u, Sep w u [blk g4 (Rdr.cells (rVec 32) k).toArray Aa] → AB Au u.heap (.slice a0 V.length c0) V := fun u hu => hr.fr hu.fr0
  rw [Wa]
  obtain ⟨c, hcd⟩ : ∃ c : Bool, c = (match V[i]? with | some u => ltV u.1 k | none => false) := ⟨_, rfl⟩
  refine Lj (d := decide ((i : Int) < V.length)) c (fun u => Sep w u [blk g4 (Rdr.cells (rVec 32) k).toArray Aa]) (fun hd => ?_) (fun hd => ⟨?_, hz1⟩) ?_
  · have hlt2 : i < V.length := by simp at hd; omega
    obtain ⟨a, ha⟩ : ∃ a, V[i]? = some a := ⟨_, List.getElem?_eq_getElem hlt2⟩
    refine RW hz1 hro ha .i64 ?_
    refine ⟨kv k, fun u hu => (Ai (Sep.blk hu) _).mpr rfl, ?_⟩
    refine AL (Af (AaT a.1 k) ?_)
    rintro _ z2 ⟨rfl, hf2⟩
    have hz2 := hz1.old hf2
    rw [ha] at hcd
    exact ⟨hz2, by rw [hcd], hz2⟩
  · rw [hcd, List.getElem?_eq_none (by simp at hd; omega)]
  intro y z2 hy hz2 _
  rw [hy, Aj]
  refine ⟨fun h2 => ?_, fun h2 => ?_⟩
  · have hlt2 : i < V.length := by
      rcases Nat.lt_or_ge i V.length with hq | hq
      · exact hq
      · rw [List.getElem?_eq_none hq] at hcd
        rw [hcd] at h2
        cases h2
    rw [Vl, wi64 (by omega) (by omega)]
    refine ⟨⟨i + 1, by simp, by omega, fun j u hj hu => ?_, hz2⟩, by simp [RowKit.intOf] <;> omega⟩
    by_cases hji : j < i
    · exact hlt j u hji hu
    · obtain rfl : j = i := by omega
      rw [hu] at hcd
      exact hcd.symm.trans h2
  · have hah : ahead V k = i := Agw hlt hi fun u hu => by rw [hu] at hcd; exact hcd.symm.trans h2
    rw [Rq (by omega)]
    have htk : (V.take i).length = i := by rw [List.length_take]; omega
    have hrt : ∀ {u : World}, Fr [] w u → AB Au u.heap (.slice a0 i c0) (V.take i) := fun hf => AB.take (hr.fr hf) hi c0
    refine BX DT Gc (by simp) (Sep.nilR (q := Au) hz2) (hrt hz2.fr0) (Vd _) (by rw [htk]; simp; omega) (by rw [htk]; simp; omega) fun v3 z3 hz3 => ?_
    rw [List.nil_append] at hz3
    obtain ⟨⟨n', i'⟩, hni⟩ : ∃ pr : Int × Nat, pr = (match V[i]? with | some u => if u.1 = k then (n + u.2, i + 1) else (n, i) | none => (n, i)) := ⟨_, rfl⟩
    have hput : putM V k n = V.take i ++ ((k, n') :: V.drop i') := by
      unfold putM
      rw [if_neg hn1, hah]
      congr 1
      cases hu : V[i]? with
      | none =>
        rw [hu] at hni
        simp only [Prod.mk.injEq] at hni
        have hq : V.drop i = [] := List.drop_eq_nil_of_le (List.getElem?_eq_none_iff.1 hu)
        rw [hni.1, hni.2, hq]
      | some u =>
        rw [hu] at hni
        simp only at hni ⊢
        split at hni
        · rename_i hk
          simp only [Prod.mk.injEq] at hni
          rw [if_pos hk, hni.1, hni.2]
        · rename_i hk
          simp only [Prod.mk.injEq] at hni
          rw [if_neg hk, hni.1, hni.2]
    have hi' : i' ≤ V.length := by
      cases hu : V[i]? with
      | none => rw [hu] at hni; simp only [Prod.mk.injEq] at hni; omega
      | some u =>
        have := (List.getElem?_eq_some_iff.1 hu).1
        rw [hu] at hni
        simp only at hni
        split at hni <;> (simp only [Prod.mk.injEq] at hni; omega)
    refine ⟨fun a b z => a = .int .i64 n' ∧ b = .int .i64 i' ∧ Sep w z [rows Au v3 (V.take i), blk g4 (Rdr.cells (rVec 32) k).toArray Aa], ?_, ?_⟩
    · refine CT hz3 fun z4 hz4 _ => ?_
      rw [Wa]
      obtain ⟨c2, hc2⟩ : ∃ c2 : Bool, c2 = (match V[i]? with | some u => decide (u.1 = k) | none => false) := ⟨_, rfl⟩
      refine Lj (d := decide ((i : Int) < V.length)) c2 (fun u => Sep w u [rows Au v3 (V.take i), blk g4 (Rdr.cells (rVec 32) k).toArray Aa]) (fun hd => ?_) (fun hd => ⟨?_, hz4⟩) ?_
      · have hlt2 : i < V.length := by simp at hd; omega
        obtain ⟨a, ha⟩ : ∃ a, V[i]? = some a := ⟨_, List.getElem?_eq_getElem hlt2⟩
        have hra : AB Au z4.heap (.slice a0 V.length c0) V := hr.fr hz4.fr0
        obtain ⟨g, o, c, hform⟩ := hra.form (by decide) ha
        cases hform
        rw [show (33 : Nat) = (Au).size from rfl, DJ _ _ _ _ _ _ _ _ (by omega) (by omega), Int.toNat_natCast]
        try simp only [fx, Nat.reduceAdd, forall_const]
        refine (Mm (At.of (by decide) hra ha) _).mpr ?_
        simp only [Ai (Sep.blk hz4.p1), B3]
        rw [ha] at hc2
        exact ⟨by rw [hc2], hz4⟩
      · rw [hc2, List.getElem?_eq_none (by simp at hd; omega)]
      intro y5 z5 hy5 hz5 _
      rw [hy5, Aj]
      refine ⟨fun h3 => ?_, fun h3 => ?_⟩
      · obtain ⟨u, hu, huk⟩ : ∃ u, V[i]? = some u ∧ u.1 = k := by
          cases hu : V[i]? with
          | none =>
            rw [hu] at hc2
            exact Bool.noConfusion (show false = true from hc2.symm.trans h3)
          | some u =>
            rw [hu] at hc2
            exact ⟨u, rfl, of_decide_eq_true (hc2.symm.trans h3)⟩
        rw [hu] at hni
        simp only [if_pos huk, Prod.mk.injEq] at hni
        have hub := hb i u hu
        have hs0 := hb.sum i
        refine Abb (hr.fr hz5.fr0) hu .i64 ?_
        try simp only [fx, Nat.reduceAdd, forall_const]
        rw [wi64 (by omega) (by omega), wi64 (by omega) (by omega)]
        exact ⟨by rw [hni.1], by rw [hni.2]; simp, hz5⟩
      · have hno : (n', i') = (n, i) := by
          rw [hni]
          cases hu : V[i]? with
          | none => rfl
          | some u =>
            rw [hu] at hc2
            have : ¬ u.1 = k := of_decide_eq_false (hc2.symm.trans h3)
            simp only [if_neg this]
        simp only [Prod.mk.injEq] at hno
        exact ⟨by rw [hno.1], by rw [hno.2], hz5⟩
    rintro _ _ z6 ⟨rfl, rfl, hz6⟩ _
    refine A0 hz6 fun z7 hz7 _ => ?_
    refine ⟨kv k, fun u hu => (Ai (Sep.blk hu.p1) _).mpr rfl, ?_⟩
    refine ⟨.agg (Rdr.cells Au (k, n')).toArray, fun u hu => by rw [Hj], ?_⟩
    change slc _ _ _ _ _
    rw [AaC hi']
    refine EE (CQ (q := Au) (l := [((k, n') : Vt)]) (V := fun c => .agg (Rdr.cells Au c).toArray) hz7 DT (fun a => rfl) rfl rfl (by decide) (by decide) fun g9 z8 hz8 => ?_)
    refine EE (BX DT Gc (by simp) hz8.p1 (Sep.rows hz8) (Vd _) (by simp only [htk, List.length_singleton]; omega) (by simp only [htk, List.length_singleton]; omega) fun v9 z9 hz9 => ?_)
    have hrd := AB.drop (hr.fr hz9.fr0) (k := i') hi' hc (c0 - i')
    have hdl : (V.drop i').length = V.length - i' := List.length_drop ..
    refine EE (BX DT Gc (by simp) hz9 hrd (Vd _) (by simp only [List.length_append, htk, List.length_singleton, hdl]; omega) (by simp only [List.length_append, htk, List.length_singleton, hdl]; omega) fun v10 z10 hz10 => ?_)
    refine hR _ _ ?_
    rw [hput]
    simp only [List.append_assoc, List.singleton_append] at hz10
    exact hz10.d1.d1
theorem Ai1 (hr : AB Au w.heap (.slice a0 V.length c0) V) (hc : V.length ≤ c0) (k : Vec 32) (n : Int) (hl : V.length ≤ 1000000) (hn : n ≤ 9223372036854775807) :
    cal P Nb [.slice a0 V.length c0, kv k, .int .i64 n] w fun r w' => ∃ v', r = .tuple #[v', .int .i64 (addB V k n).2] ∧ Sep w w' [rows Au v' (addB V k n).1] := by
  refine AcO fun R hR => ?_
  unfold Tq
  refine bxQ (Sep.start w) fun g4 w1 hs1 => ?_
  refine Af (RO (hr.fr hs1.fr0) (by omega)) ?_
  rintro _ w2 ⟨rfl, hf2⟩
  have hs2 := hs1.old hf2
  try simp only [fx, Nat.reduceAdd, forall_const]
  have hnil : ∀ {z : World} {e : Int}, addB V k n = ([], e) → Sep w z [blk g4 (Rdr.cells (rVec 32) k).toArray Aa] → R (.tuple #[.slice none 0 0, .int .i64 e]) z := fun he hz =>
    hR _ _ ⟨.slice none 0 0, by rw [he], by rw [he]; exact (Sep.nilR hz).d1⟩
  rw [Aj]
  refine ⟨fun h => ?_, fun h => ?_⟩
  · have h : bagE V ≠ 0 := by simpa using h
    exact hnil (by rw [addB, if_pos h]) hs2
  have hE : ¬ bagE V ≠ 0 := by simpa using h
  have hb : BN V := GK.1 (by simpa using h)
  rw [Aj]
  refine ⟨fun h => ?_, fun h => ?_⟩
  · have h : n < 0 := by simpa using h
    exact hnil (by rw [addB, if_neg hE, if_pos h]) hs2
  have hn0 : ¬ n < 0 := by simpa using h
  refine Af (Adq (hr.fr hs2.fr0) hl) ?_
  rintro _ w3 ⟨rfl, hf3⟩
  have hs3 := hs2.old hf3
  have hG : DN V = V := by rw [DN, if_pos hb]
  have hsm := hb.sum V.length
  rw [List.take_of_length_le (Nat.le_refl _)] at hsm
  rw [hG]
  try simp only [fx, Nat.reduceAdd, forall_const]
  rw [wi64 (by omega) (by omega), Aj]
  refine ⟨fun h => ?_, fun h => ?_⟩
  · have h : 1048576 - sumV V < n := by simpa using h
    exact hnil (by rw [addB, if_neg hE, if_neg hn0, if_pos h]) hs3
  have hn1 : ¬ 1048576 - sumV V < n := by simpa using h
  simp only [Ai (Sep.blk hs3)]
  refine Af (AiX (hr.fr hs3.fr0) hc hb k (by omega) (by omega) hl) ?_
  rintro v4 w4 hs4
  replace hs4 := hs3.join hs4
  have he : addB V k n = (putM V k n, 0) := by rw [addB, if_neg hE, if_neg hn0, if_neg hn1]
  exact hR _ _ ⟨v4, by rw [he], by rw [he]; exact hs4.d1⟩
end
end Go.Fx
namespace Go.Fx
abbrev TN := Vec 32 × Blk × Value × Nat
def TN.ent (x : TN) : Ent 32 := (x.1, bq x.2.1 x.2.2.1, x.2.2.2)
structure Tr where
  root : Vec 32
  ht : Int
  most : Int
def Bx (k : Vec 32) (N : List TN) : Option TN := N.find? fun x => decide (k = x.1)
def Ba (k : Vec 32) (N : List TN) : Option Blk := (Bx k N).map (·.2.1)
theorem Ms (k : Vec 32) : ∀ N : List TN, getE k (N.map TN.ent) = (Bx k N).map fun x => bq x.2.1 x.2.2.1
  | [] => rfl
  | x :: N => by
    unfold getE Bx
    rw [List.map_cons, List.find?_cons, List.find?_cons]
    by_cases h : k = x.1
    · simp [h, TN.ent]
    · have e1 : decide (k = (TN.ent x).1) = false := decide_eq_false h
      have e2 : decide (k = x.1) = false := decide_eq_false h
      rw [e1, e2]
      exact Ms k N
theorem KT : KeyT P Aa Ei 32 := ⟨UG, Iv, by kernel_rfl, by kernel_rfl, JO⟩
theorem zB (w : World) : (zeroValue Ao).run P w = .ok (bq Blk.none (.slice none 0 0)) w := by kernel_rfl
structure EOk (E : List (Ent 32)) (N : List TN) (c : Nat) : Prop where
  pm : (E.map (·.1)).Perm (N.map (·.1))
  nd : (E.map (·.1)).Nodup
  get : ∀ k, getE k E = getE k (N.map TN.ent)
  bn : (E.map (·.2.2)).Nodup
  lt : ∀ x ∈ E, x.2.2 < c
theorem EOk.nil (c : Nat) : EOk [] [] c := ⟨List.Perm.refl _, by simp, fun _ => rfl, by simp, fun x hx => by cases hx⟩
theorem EOk.len {E : List (Ent 32)} {N : List TN} {c : Nat} (h : EOk E N c) : E.length = N.length := by
  have := h.pm.length_eq
  simpa using this
def mpN (gm : Nat) (N : List TN) (c : Nat) : Asn := Asn.ex fun E => (Asn.pr (EOk E N c)).star (mp gm E c)
theorem Uv {w0 w : World} {As : List Asn} {gm c : Nat} {N : List TN} (h : Sep w0 w (mpN gm N c :: As)) : ∃ E, EOk E N c ∧ Sep w0 w (mp gm E c :: As) := by
  unfold mpN at h
  rw [HT] at h
  obtain ⟨E, h⟩ := h
  rw [Jq, Nm] at h
  exact ⟨E, h.1, h.2⟩
theorem Mx {w0 w : World} {As : List Asn} {gm c : Nat} {N : List TN} {E : List (Ent 32)} (hE : EOk E N c) (h : Sep w0 w (mp gm E c :: As)) : Sep w0 w (mpN gm N c :: As) := by
  unfold mpN
  rw [HT]
  exact ⟨E, by rw [Jq, Nm]; exact ⟨hE, h⟩⟩
theorem Aaw {n : Nat} {k : Vec n} {l : List (Ent n)} : (getE k l).isSome = true ↔ k ∈ l.map (·.1) := by
  unfold getE
  rw [Option.isSome_map, List.find?_isSome]
  constructor
  · rintro ⟨x, hx, h⟩
    have : k = x.1 := by simpa using h
    exact this ▸ List.mem_map_of_mem hx
  · intro h
    obtain ⟨x, hx, rfl⟩ := List.mem_map.1 h
    exact ⟨x, hx, by simp⟩
theorem My {n : Nat} {k : Vec n} {H : List (Ent n)} {x : Ent n} : getE k (H ++ [x]) = (getE k H).or (if k = x.1 then some x.2.1 else none) := by
  unfold getE
  rw [List.find?_append]
  cases hf : List.find? (fun x => decide (k = x.1)) H with
  | some y => simp
  | none =>
    by_cases h : k = x.1 <;> simp [h]
theorem M4 {n : Nat} (p : Vec n → Bool) (k : Vec n) : ∀ l : List (Ent n), getE k (l.filter fun x => p x.1) = if p k = true then getE k l else none
  | [] => by simp [getE]
  | x :: N => by
    have ih := M4 p k N
    unfold getE at ih ⊢
    by_cases hk : k = x.1
    · subst hk
      by_cases hp : p x.1 = true
      · rw [List.filter_cons_of_pos (p := fun x : Ent n => p x.1) hp, if_pos hp]
        simp
      · rw [List.filter_cons_of_neg (p := fun x : Ent n => p x.1) hp, ih, if_neg hp, if_neg hp]
    · rw [List.find?_cons_of_neg (by simpa using hk), ← ih]
      by_cases hp : p x.1 = true
      · rw [List.filter_cons_of_pos (p := fun x : Ent n => p x.1) hp, List.find?_cons_of_neg (by simpa using hk)]
      · rw [List.filter_cons_of_neg (p := fun x : Ent n => p x.1) hp]
theorem AaF {n : Nat} {k : Vec n} {H : List (Ent n)} (h : k ∉ H.map (·.1)) : getE k H = none := by
  cases hg : getE k H with
  | none => rfl
  | some x => exact absurd (Aaw.1 (by rw [hg]; rfl)) h
theorem EOk.add {E : List (Ent 32)} {N : List TN} {c c' : Nat} {k : Vec 32} {b : Blk} {v : Value} (h : EOk E N c) (hk : getE k (N.map TN.ent) = none) : EOk (E ++ [(k, bq b v, c)]) (N ++ [(k, b, v, c')]) (c + 1) := by
  have hkE : k ∉ E.map (·.1) := fun hm => by
    have := Aaw.2 hm
    rw [h.get, hk] at this
    cases this
  refine ⟨?_, ?_, fun k' => ?_, ?_, fun x hx => ?_⟩
  · rw [List.map_append, List.map_append]
    exact h.pm.append_right _
  · rw [List.map_append, List.nodup_append]
    refine ⟨h.nd, by simp, fun x hx y hy he => ?_⟩
    simp only [List.map_cons, List.map_nil, List.mem_singleton] at hy
    subst hy
    exact hkE (he ▸ hx)
  · rw [List.map_append, List.map_singleton, My, My, h.get]
    rfl
  · rw [List.map_append, List.nodup_append]
    refine ⟨h.bn, by simp, fun x hx y hy he => ?_⟩
    simp only [List.map_cons, List.map_nil, List.mem_singleton] at hy
    subst hy
    obtain ⟨z, hz, rfl⟩ := List.mem_map.1 hx
    have := h.lt z hz
    omega
  · rcases List.mem_append.1 hx with hx | hx
    · have := h.lt x hx; omega
    · obtain rfl : x = (k, bq b v, c) := by simpa using hx
      show c < c + 1
      omega
theorem EOk.filter {E : List (Ent 32)} {N : List TN} {c : Nat} (p : Vec 32 → Bool) (h : EOk E N c) : EOk (E.filter fun x => p x.1) (N.filter fun x => p x.1) c := by
  have e1 : (E.filter fun x => p x.1).map (·.1) = (E.map (·.1)).filter p := by rw [List.filter_map]; rfl
  have e2 : (N.filter fun x => p x.1).map (·.1) = (N.map (·.1)).filter p := by rw [List.filter_map]; rfl
  have e3 : (N.filter fun x => p x.1).map TN.ent = (N.map TN.ent).filter fun x => p x.1 := by rw [List.filter_map]; rfl
  refine ⟨by rw [e1, e2]; exact h.pm.filter p, by rw [e1]; exact h.nd.sublist List.filter_sublist, fun k => ?_, h.bn.sublist (List.filter_sublist.map _), fun x hx => h.lt x (List.mem_filter.1 hx).1⟩
  rw [M4, e3, M4, h.get]
abbrev tq (t : Tr) (gm : Nat) (ov : Value) : Bool × Vec 32 × Int × Int × Value × Value := (true, t.root, t.ht, t.most, .map (some gm), ov)
structure TrR (h : Heap) (g gm : Nat) (ov : Value) (t : Tr) (N : List TN) (c : Nat) : Prop where
  cell : ∃ T fr, h[g]? = some (.cells (Rdr.cells AN (tq t gm ov)).toArray T fr)
  map : ∃ E, EOk E N c ∧ h[gm]? = some (.map (ents E) c)
  ord : AB (rVec 32) h ov (N.map (·.1))
  dat : ∀ x ∈ N, RdB h x.2.2.1 x.2.1.d
section
variable {w0 w w' : World} {As : List Asn} {g gm c : Nat} {ov : Value} {t : Tr} {N : List TN}
theorem TrR.fr (h : TrR w.heap g gm ov t N c) (hf : Fr [] w w') : TrR w'.heap g gm ov t N c := by
  obtain ⟨T, fr, hc⟩ := h.cell
  obtain ⟨E, hE, hm⟩ := h.map
  exact ⟨⟨T, fr, hf.blk hc (by simp)⟩, ⟨E, hE, hf.blk hm (by simp)⟩, h.ord.fr hf, fun x hx => (h.dat x hx).fr hf (D8 _)⟩
theorem TrR.look (hr : TrR w.heap g gm ov t N c) (k : Vec 32) (K : Value → Prop) : rdP P (Instr.lookup AT (.map (some gm)) (kv k) true) w K =
    K (.tuple #[(getE k (N.map TN.ent)).getD (bq Blk.none (.slice none 0 0)), .bool (getE k (N.map TN.ent)).isSome]) := by
  obtain ⟨E, hE, hm⟩ := hr.map
  rw [Wj Cq KT (zB w) hm k, hE.get]
theorem TrR.look1 (hr : TrR w.heap g gm ov t N c) (k : Vec 32) (K : Value → Prop) : rdP P (Instr.lookup AT (.map (some gm)) (kv k) false) w K =
    K ((getE k (N.map TN.ent)).getD (bq Blk.none (.slice none 0 0))) := by
  obtain ⟨E, hE, hm⟩ := hr.map
  rw [Tw Cq KT (zB w) hm k, hE.get]
theorem TrR.mlen {ty : TypeId} (hr : TrR w.heap g gm ov t N c) (hl : N.length ≤ 9223372036854775807) (K : Value → Prop) : rdP P (Builtin.len_ #[AT] ty #[.map (some gm)]) w K = K (.int .i64 N.length) := by
  obtain ⟨E, hE, hm⟩ := hr.map
  rw [AhV Cq hm (by rw [hE.len]; exact hl), hE.len]
theorem Sep.tr (h : Sep w0 w As) (hr : TrR w0.heap g gm ov t N c) : TrR w.heap g gm ov t N c := hr.fr h.1
theorem EV (hr : TrR w.heap g gm ov t N c) : cal P Cp [.pointer (some ⟨g, 0, none⟩)] w fun r w' => r = .bool false ∧ w = w' := by
  refine Uk fun R hR => ?_
  unfold Lt
  obtain ⟨T, fr, hc⟩ := hr.cell
  simp only [fx, Nat.reduceAdd, forall_const, Option.isNone_some, DC hc, Ci hc, BU hc, BM hc, B6 hc, A7 hc, BR hc]
  exact hR _ _ ⟨rfl, rfl⟩
def nb (k : Vec 32) (N : List TN) : Blk × Value := ((Bx k N).map fun x => (x.2.1, x.2.2.1)).getD (Blk.none, .slice none 0 0)
theorem Nz (k : Vec 32) (N : List TN) : (getE k (N.map TN.ent)).getD (bq Blk.none (.slice none 0 0)) = bq (nb k N).1 (nb k N).2 := by
  rw [Ms]
  unfold nb
  cases Bx k N <;> rfl
theorem Zz (k : Vec 32) (N : List TN) : (getE k (N.map TN.ent)).isSome = (Ba k N).isSome := by
  rw [Ms]
  unfold Ba
  cases Bx k N <;> rfl
theorem Zy (hr : TrR w.heap g gm ov t N c) (k : Vec 32) : RdB w.heap (nb k N).2 (nb k N).1.d := by
  unfold nb
  cases h : Bx k N with
  | none => exact VY w
  | some x => exact hr.dat x (List.mem_of_find?_eq_some h)
theorem Wr {k : Vec 32} {N : List TN} : (Ba k N = none ∧ (nb k N).1 = Blk.none) ∨ Ba k N = some (nb k N).1 := by
  unfold nb Ba
  cases Bx k N with
  | none => exact .inl ⟨rfl, rfl⟩
  | some x => exact .inr rfl
def levH (t : Tr) (N : List TN) (k : Vec 32) : Int := if k = t.root then t.ht else match Ba k N with
  | some b => b.h
  | none => 0
def has (t : Tr) (N : List TN) (k : Vec 32) : Bool := decide (k = t.root) || (Ba k N).isSome
theorem Wk (hr : TrR w.heap g gm ov t N c) (k : Vec 32) : cal P Fm [.pointer (some ⟨g, 0, none⟩), kv k] w fun r w' => r = .tuple #[.int .i64 (levH t N k), .bool (has t N k)] ∧ Fr [] w w' := by
  refine R4 fun R hR => ?_
  unfold KK
  refine bxQ (Sep.start w) fun g3 w1 hs1 => ?_
  refine Af (EV (hs1.tr hr)) ?_
  rintro _ _ ⟨rfl, rfl⟩
  simp only [fx, Nat.reduceAdd, forall_const]
  refine CT hs1 fun w2 hs2 _ => ?_
  obtain ⟨T, fr, hc⟩ := (hs2.tr hr).cell
  simp only [fx, Nat.reduceAdd, forall_const, Ai hs2.blk, DC hc, Ci hc, BU hc, BM hc, B6 hc, A7 hc, BR hc, B3]
  rw [Aj]
  refine ⟨fun h => ?_, fun h => ?_⟩
  · have h : k = t.root := by simpa using h
    refine hR _ _ ⟨?_, hs2.fr0⟩
    unfold levH has
    rw [if_pos h, decide_eq_true h]
    rfl
  · have h : ¬ k = t.root := by simpa using h
    refine A0 hs2 fun w3 hs3 _ => ?_
    refine AF (v := .map (some gm)) (fun u hu K hk => by
      obtain ⟨T, fr, hc⟩ := (hu.tr hr).cell
      exact (A7 hc K).mpr hk) ?_
    refine ⟨kv k, fun u hu => (Ai hu.blk _).mpr rfl, ?_⟩
    refine ⟨.tuple #[(getE k (N.map TN.ent)).getD (bq Blk.none (.slice none 0 0)), .bool (getE k (N.map TN.ent)).isSome], fun u hu => ((hu.tr hr).look k _).mpr rfl, ?_⟩
    rw [Nz, Zz]
    simp only [fx, Nat.reduceAdd, forall_const]
    refine AL (Av hs3 (BF w3) fun g4 w4 hs4 => ⟨hs4.tail, ?_⟩)
    refine A9 (Bm hs4 (Bh (Zy (hs4.tr hr) k).one) fun w5 hs5 => ?_)
    simp only [fx, Nat.reduceAdd, forall_const, AA hs5.blk, Am hs5.blk, Ap hs5.blk, Ay hs5.blk]
    refine hR _ _ ⟨?_, hs5.fr0⟩
    unfold levH has
    rw [if_neg h, decide_eq_false h, Bool.false_or]
    rcases Wr (k := k) (N := N) with ⟨h1, h2⟩ | h1
    · rw [h1, h2]; rfl
    · rw [h1]
theorem GI (hr : TrR w.heap g gm ov t N c) (k : Vec 32) : cal P Cz [.pointer (some ⟨g, 0, none⟩), kv k] w fun r w' => r = .bool (has t N k) ∧ Fr [] w w' := by
  refine Vf fun R hR => ?_
  unfold ME
  refine bxQ (Sep.start w) fun g3 w1 hs1 => ?_
  simp only [Ai hs1.blk]
  refine Af (Wk (hs1.tr hr) k) ?_
  rintro _ w2 ⟨rfl, hf2⟩
  simp only [fx, Nat.reduceAdd, forall_const]
  exact hR _ _ ⟨rfl, (hs1.old hf2).fr0⟩
theorem J8 (hr : TrR w.heap g gm ov t N c) : cal P Dn [.pointer (some ⟨g, 0, none⟩)] w fun r w' => r = .tuple #[kv t.root, .int .i64 t.ht] ∧ Fr [] w w' := by
  refine Ub fun R hR => ?_
  unfold LN
  refine Av (Sep.start w) (AS w) fun g3 w1 hs1 => ?_
  refine Af (EV (hs1.tr hr)) ?_
  rintro _ _ ⟨rfl, rfl⟩
  simp only [fx, Nat.reduceAdd, forall_const]
  refine ⟨fun u => ∃ v, Sep w u [blk g3 (Rdr.cells (rVec 32) v).toArray Aa], ⟨_, hs1.drew _⟩, ?_⟩
  refine ⟨kv t.root, fun u ⟨v, hu⟩ => by
    obtain ⟨T, fr, hc⟩ := (hu.tr hr).cell
    exact (BU hc _).mpr rfl, ?_⟩
  refine AF (v := .int .i64 t.ht) (fun u ⟨v, hu⟩ K hk => by
    obtain ⟨T, fr, hc⟩ := (hu.tr hr).cell
    exact (BM hc K).mpr hk) ?_
  refine AL (AE (hs1.drew _) fun w3 hs3 => ⟨⟨_, hs3⟩, ?_⟩)
  simp only [Ai hs3.blk]
  exact hR _ _ ⟨rfl, hs3.fr0⟩
end
end Go.Fx
namespace Go.Fx
structure TrW (t : Tr) (N : List TN) : Prop where
  up : ∀ k b, Ba k N = some b → has t N b.p = true ∧ b.h = levH t N b.p + 1
  above : ∀ k b, Ba k N = some b → t.ht < b.h
  noroot : Ba t.root N = none
  small : ∀ x ∈ N, x.2.1.d.length ≤ 200
def upOf (k : Vec 32) (N : List TN) : Vec 32 := (nb k N).1.p
def Fk (t : Tr) (N : List TN) : Nat → Vec 32 → List (Vec 32)
  | 0, _ => []
  | n + 1, k => if k = t.root then [] else k :: Fk t N n (upOf k N)
def hgt (t : Tr) (N : List TN) (k : Vec 32) : Nat := (levH t N k - t.ht).toNat
theorem ED {t : Tr} {N : List TN} {k : Vec 32} (h : has t N k = true) (hk : k ≠ t.root) : Ba k N = some (nb k N).1 := by
  unfold has at h
  rw [decide_eq_false hk, Bool.false_or] at h
  rcases Wr (k := k) (N := N) with ⟨h1, _⟩ | h1
  · rw [h1] at h; cases h
  · exact h1
theorem F5 {t : Tr} {N : List TN} {k : Vec 32} (hw : TrW t N) (h : has t N k = true) (hk : k ≠ t.root) : has t N (upOf k N) = true ∧ hgt t N k = hgt t N (upOf k N) + 1 := by
  have hb := ED h hk
  obtain ⟨h1, h2⟩ := hw.up k _ hb
  have h3 := hw.above k _ hb
  refine ⟨h1, ?_⟩
  have e : levH t N k = (nb k N).1.h := by
    unfold levH
    rw [if_neg hk, hb]
  have h4 : t.ht ≤ levH t N (upOf k N) := by
    by_cases hr : upOf k N = t.root
    · unfold levH; rw [if_pos hr]; omega
    · have hb2 := ED (show has t N (upOf k N) = true from h1) hr
      have := hw.above _ _ hb2
      unfold levH
      rw [if_neg hr, hb2]
      simp only
      omega
  unfold hgt
  rw [e, h2]
  show (levH t N (upOf k N) + 1 - t.ht).toNat = _
  omega
section
variable {w0 w w' : World} {As : List Asn} {g gm c : Nat} {ov : Value} {t : Tr} {N : List TN}
theorem AgB (hr : TrR w.heap g gm ov t N c) (hw : TrW t N) (k : Vec 32) : cal P IR [.pointer (some ⟨g, 0, none⟩), kv k] w fun r w' => ∃ v, r = .tuple #[bq (nb k N).1 v, .int .i64 (if (Ba k N).isSome then 0 else 4)] ∧ Sep w w' [ownB v (nb k N).1.d] := by
  refine VP fun R hR => ?_
  unfold Mn
  refine bxQ (Sep.start w) fun g3 w1 hs1 => ?_
  refine Av hs1 (BF w1) fun g4 w2 hs2 => ?_
  refine Af (EV (hs2.tr hr)) ?_
  rintro _ _ ⟨rfl, rfl⟩
  simp only [fx, Nat.reduceAdd, forall_const]
  refine A0 hs2 fun w3 hs3 _ => ?_
  refine AF (v := .map (some gm)) (fun u hu K hk => by
    obtain ⟨T, fr, hc⟩ := (hu.tr hr).cell
    exact (A7 hc K).mpr hk) ?_
  refine ⟨kv k, fun u hu => (Ai (Sep.p1 hu).blk _).mpr rfl, ?_⟩
  refine ⟨.tuple #[(getE k (N.map TN.ent)).getD (bq Blk.none (.slice none 0 0)), .bool (getE k (N.map TN.ent)).isSome], fun u hu => ((hu.tr hr).look k _).mpr rfl, ?_⟩
  rw [Nz, Zz]
  simp only [fx, Nat.reduceAdd, forall_const]
  refine AL (Av hs3 (BF w3) fun g5 w4 hs4 => ⟨hs4.tail, ?_⟩)
  refine A9 (Bm hs4 (Bh (Zy (hs4.tr hr) k).one) fun w5 hs5 => ?_)
  rw [Aj]
  refine ⟨fun h => ?_, fun h => ?_⟩
  · have h : (Ba k N).isSome = false := by simpa using h
    rw [HN]
    refine Bm hs5.p1 (Bh rfl) fun w6 hs6 => ?_
    simp only [AA hs6.blk, Am hs6.blk, Ap hs6.blk, Ay hs6.blk]
    rcases Wr (k := k) (N := N) with ⟨h1, h2⟩ | h1
    · refine hR _ _ ⟨.slice none 0 0, by rw [h2, h]; rfl, ?_⟩
      rw [h2]
      exact ((Sep.start w).old hs6.fr0).nil
    · rw [h1] at h; cases h
  · have h : (Ba k N).isSome = true := by simpa using h
    simp only [AA hs5.blk, Am hs5.blk, Ap hs5.blk, Ay hs5.blk]
    have hrd := Zy (hs5.tr hr) k
    have hl : (nb k N).1.d.length ≤ 200 := by
      unfold nb
      cases hx : Bx k N with
      | none => simp [Blk.none]
      | some x => exact hw.small x (List.mem_of_find?_eq_some hx)
    refine Af (Lm hrd (by omega)) ?_
    rintro _ w6 ⟨v6, rfl, hs6⟩
    replace hs6 := hs5.join hs6
    refine Bm hs6.p2 (Bh (Sep.one hs6)) fun w7 hs7 => ?_
    simp only [AA hs7.blk, Am hs7.blk, Ap hs7.blk, Ay hs7.blk]
    exact hR _ _ ⟨v6, by rw [h]; rfl, Sep.dropR (As := [ownB v6 _]) hs7.p1⟩
theorem AgX (hr : TrR w.heap g gm ov t N c) (hl : N.length ≤ 1000000) : cal P IY [.pointer (some ⟨g, 0, none⟩)] w fun r w' => r = .int .i64 N.length ∧ w = w' := by
  refine VX fun R hR => ?_
  unfold Mk
  refine Af (EV hr) ?_
  rintro _ _ ⟨rfl, rfl⟩
  obtain ⟨T, fr, hc⟩ := hr.cell
  simp only [fx, Nat.reduceAdd, forall_const, DC hc, Ci hc, BU hc, BM hc, B6 hc, A7 hc, BR hc]
  rw [hr.mlen (by omega)]
  exact hR _ _ ⟨rfl, rfl⟩
theorem Adm : ∀ {a b : List UInt8}, bvs a = bvs b → a = b
  | [], [], _ => rfl
  | [], _ :: _, h => by simp [bvs] at h
  | _ :: _, [], h => by simp [bvs] at h
  | x :: a, y :: b, h => by
    simp only [bvs, List.map_cons, List.cons.injEq, bv, Value.int.injEq, true_and] at h
    have hx : x = y := UInt8.toNat_inj.1 (by have := h.1; omega)
    rw [hx, Adm (a := a) (b := b) h.2]
noncomputable def Rw (g : Nat) (z : World) : Vec 32 :=
  open Classical in if h : ∃ k : Vec 32, z.heap[g]? = some (.cells (Rdr.cells (rVec 32) k).toArray Aa (0, 0)) then Classical.choose h else vz 32
theorem GX {g : Nat} {z : World} {k : Vec 32} (h : z.heap[g]? = some (.cells (Rdr.cells (rVec 32) k).toArray Aa (0, 0))) : Rw g z = k := by
  have hx : ∃ k : Vec 32, z.heap[g]? = some (.cells (Rdr.cells (rVec 32) k).toArray Aa (0, 0)) := ⟨k, h⟩
  unfold Rw
  rw [dif_pos hx]
  have h2 := Classical.choose_spec hx
  generalize Classical.choose hx = k' at h2 ⊢
  rw [h] at h2
  simp only [Option.some.injEq, Obj.cells.injEq, and_true] at h2
  have h3 : bvs k.1 = bvs k'.1 := by
    have h4 : (Rdr.cells (rVec 32) k) = Rdr.cells (rVec 32) k' := by
      have := congrArg Array.toList h2
      simpa using this
    exact h4
  exact (Subtype.ext (Adm h3)).symm
def under (t : Tr) (N : List TN) (a b : Vec 32) : Bool := has t N a && (has t N b && (decide (b = t.root) || decide (b ∈ Fk t N (hgt t N a) a)))
theorem Ox (t : Tr) (N : List TN) (n : Nat) : Fk t N n t.root = [] := by
  cases n <;> simp [Fk]
theorem K1 {k : Vec 32} (hw : TrW t N) (h : has t N k = true) (hk : k ≠ t.root) : Fk t N (hgt t N k) k = k :: Fk t N (hgt t N (upOf k N)) (upOf k N) := by
  obtain ⟨h1, h2⟩ := F5 hw h hk
  rw [h2, Fk, if_neg hk]
theorem Nj (hr : TrR w.heap g gm ov t N c) (hw : TrW t N) (a b : Vec 32) : cal P Ef [.pointer (some ⟨g, 0, none⟩), kv a, kv b] w fun r w' => r = .bool (under t N a b) ∧ Fr [] w w' := by
  refine Qc fun R hR => ?_
  unfold JW
  refine bxQ (Sep.start w) fun g3 w1 hs1 => ?_
  refine bxQ hs1 fun g4 w2 hs2 => ?_
  simp only [Ai (Sep.p1 hs2).blk]
  refine Af (GI (hs2.tr hr) a) ?_
  rintro _ w3 ⟨rfl, hf3⟩
  have hs3 := hs2.old hf3
  by_cases ha : has t N a = true
  case neg =>
    have ha : has t N a = false := by simpa using ha
    simp only [ha, fx, Nat.reduceAdd, forall_const, Bool.not_false]
    exact hR _ _ ⟨by unfold under; rw [ha]; rfl, hs3.fr0⟩
  simp only [ha, fx, Nat.reduceAdd, forall_const, Bool.not_true, Ai hs3.blk]
  refine Bu ?_
  refine Af (GI (hs3.tr hr) b) ?_
  rintro _ w4 ⟨rfl, hf4⟩
  have hs4 := hs3.old hf4
  by_cases hb : has t N b = true
  case neg =>
    have hb : has t N b = false := by simpa using hb
    simp only [hb, fx, Nat.reduceAdd, forall_const, Bool.not_false]
    exact hR _ _ ⟨by unfold under; rw [hb, Bool.false_and, Bool.and_false], hs4.fr0⟩
  simp only [hb, fx, Nat.reduceAdd, forall_const, Bool.not_true]
  refine ⟨fun z => ∃ k, has t N k = true ∧ under t N a b = under t N k b ∧ Sep w z [blk g4 (Rdr.cells (rVec 32) b).toArray Aa, blk g3 (Rdr.cells (rVec 32) k).toArray Aa], fun z => hgt t N (Rw g3 z), ⟨a, ha, rfl, hs4⟩, ?_⟩
  rintro w5 ⟨k, hk, hu, hs5⟩ -
  refine CT hs5 fun w6 hs6 hw6 => ?_
  obtain ⟨T, fr, hc⟩ := (hs6.tr hr).cell
  simp only [Ai hs6.blk, Ai (Sep.p1 hs6).blk, C0, DC hc, Ci hc, BU hc, BM hc, B6 hc, A7 hc, BR hc, fx, Nat.reduceAdd, forall_const]
  have fin : (k = b ∨ k = t.root) → R (.bool (decide (k = b))) w6 := fun he => by
    refine hR _ _ ⟨?_, hs6.fr0⟩
    rw [hu]
    congr 1
    unfold under
    rw [hk, hb, Bool.true_and, Bool.true_and]
    by_cases hkb : k = b
    · subst hkb
      rw [decide_eq_true rfl]
      by_cases hkr : k = t.root
      · rw [decide_eq_true hkr]; rfl
      · rw [K1 hw hk hkr]; simp
    · have hkr : k = t.root := he.resolve_left hkb
      rw [decide_eq_false hkb, hkr, Ox]
      have : ¬ b = t.root := fun hbr => hkb (by rw [hkr, hbr])
      simp [this]
  rw [Aj]
  refine ⟨fun h => ?_, fun h => ?_⟩
  · have h1 : ¬ k = b ∧ ¬ k = t.root := by simpa using h
    obtain ⟨h2, h3⟩ := F5 hw hk h1.2
    refine A0 hs6 fun w7 hs7 hw7 => ?_
    refine AF (v := .map (some gm)) (fun u hu K hk => by
      obtain ⟨T, fr, hc⟩ := (hu.tr hr).cell
      exact (A7 hc K).mpr hk) ?_
    refine ⟨kv k, fun u hu => (Ai (Sep.p1 hu).blk _).mpr rfl, ?_⟩
    refine ⟨(getE k (N.map TN.ent)).getD (bq Blk.none (.slice none 0 0)), fun u hu => ((hu.tr hr).look1 k _).mpr rfl, ?_⟩
    rw [Nz]
    have e : ∀ K, fldv 0 32 true (bq (nb k N).1 (nb k N).2) K = K (kv (upOf k N)) := fun K => by
      have hl : (bvs (nb k N).1.p.1).length = 32 := by rw [K6]; exact (nb k N).1.p.2
      have ex : (Rdr.cells Aw ((nb k N).1.p, (nb k N).1.h, (nb k N).2)).toArray.extract 0 (0 + 32) = (bvs (nb k N).1.p.1).toArray := by
        apply Array.ext'
        show ((bvs (nb k N).1.p.1 ++ ([Value.int .i64 (nb k N).1.h] ++ [(nb k N).2])).toArray.extract 0 (0 + 32)).toList = _
        simp only [List.extract_toArray, List.drop_zero]
        simp [List.extract, hl]
      refine propext ⟨?_, fun hk => ⟨_, rfl, ?_, ?_⟩⟩
      · rintro ⟨cs, hcs, h⟩
        cases hcs
        have h2 := h.2
        rw [ex] at h2
        exact h2
      · show 0 + 32 ≤ (bvs (nb k N).1.p.1 ++ ([Value.int .i64 (nb k N).1.h] ++ [(nb k N).2])).toArray.size
        simp [hl]
      · rw [ex]
        exact hk
    change fldv _ _ _ _ _
    rw [e]
    refine A9 (AE hs7.p1 fun w8 hs8 => ?_)
    refine ⟨⟨upOf k N, h2, ?_, hs8.p1⟩, ?_⟩
    · rw [hu]
      unfold under
      rw [hk, h2, K1 hw hk h1.2]
      have : ¬ b = k := fun hbk => h1.1 hbk.symm
      simp [this]
    · rw [GX hs8.blk, GX (Sep.p1 hs5).blk]
      omega
  · have h1 : k = b ∨ k = t.root := by
      rcases Decidable.em (k = b) with hh | hh
      · exact .inl hh
      · refine .inr (Decidable.byContradiction fun hr' => ?_)
        simp [hh, hr'] at h
    simp only [B3, Ai hs6.blk, Ai (Sep.p1 hs6).blk]
    exact fin h1
end
end Go.Fx
namespace Go.Fx
theorem AbP {β : Type} {D vs pre qa post : List β} {k n : Nat} (hp : pre.length = k) (hv : vs.length = qa.length) (h : D.take n = pre ++ qa ++ post) (hn : n = k + qa.length + post.length) : (D.take k ++ vs ++ D.drop (k + vs.length)).take n = pre ++ vs ++ post := by
  obtain ⟨R, hR⟩ : ∃ R, D = pre ++ (qa ++ (post ++ R)) := ⟨D.drop n, by conv => lhs; rw [← List.take_append_drop n D, h]; simp⟩
  have h1 : D.take k = pre := by rw [hR]; exact List.take_left' hp
  have h2 : D.drop (k + vs.length) = post ++ R := by rw [hR, ← List.drop_drop, List.drop_left' hp, hv]; exact List.drop_left' rfl
  rw [h1, h2, ← List.append_assoc]
  exact List.take_left' (by simp; omega)
section
variable {w0 w w' : World} {As : List Asn} {α : Type} {q : Rdr α}
theorem Aab {g o c j : Nat} {l : List α} {a b : α} {K : World → Prop} (hs : Sep w0 w (Go.Fx.rows q (.slice (some ⟨g, o, none⟩) l.length c) l :: As)) (hj : l[j]? = some a)
    (h1 : ∀ u ∈ q.cells b, u.oneCell' = true) (h : ∀ w', Sep w0 w' (Go.Fx.rows q (.slice (some ⟨g, o, none⟩) l.length c) (l.set j b) :: As) → K w') : stN q.size (.pointer (some ⟨g, o + j * q.size, none⟩)) (.agg (q.cells b).toArray) w K := by
  obtain ⟨F, ho, hu⟩ := hs.upd
  have hlt := (List.getElem?_eq_some_iff.1 hj).1
  obtain ⟨pre', post', d1, d2, d3⟩ := M3 (q := q) (b := b) hj
  have hb : j * q.size + q.size ≤ l.length * q.size := by rw [← Nat.succ_mul]; exact Nat.mul_le_mul_right _ hlt
  obtain ⟨hl, ⟨hv, _⟩ | ⟨g', o', cap, cur, E, hv, hn, hg, hfit, hcs, rfl⟩⟩ := ho
  · cases hv
  · cases hv
    have hcap : l.length * q.size ≤ c * q.size := Nat.mul_le_mul_right _ hn
    have hqa := q.len a
    have hqb := q.len b
    refine AeK hg (by simp [hqb]) (by omega) (by simpa using h1) fun w' hg' hf => h w' ?_
    have hll : (l.set j b).length = l.length := by simp
    refine hu w' [g] _ ?_ hf (Grew.refl _ _)
    show Own w'.heap _ q.size (l.set j b).length _ [g]
    rw [hll]
    have hsz : (splice cur (o + j * q.size) (q.cells b)).size = cur.size := by
      simp only [splice, List.size_toArray, List.length_append, List.length_take, List.length_drop, Array.length_toList, hqb]
      omega
    refine ⟨by rw [Eg q.len, hll], .inr ⟨g, o, c, _, E, rfl, hn, hg', by rw [hsz]; exact hfit, ?_, rfl⟩⟩
    rw [d2]
    rw [d1] at hcs
    have hlen : l.length * q.size = j * q.size + q.size + post'.length := by
      have h2 := congrArg List.length d1
      rw [Eg q.len, List.length_append, List.length_append, hqa, d3] at h2
      exact h2
    have e : (splice cur (o + j * q.size) (q.cells b)).toList.drop o = (cur.toList.drop o).take (j * q.size) ++ q.cells b ++ (cur.toList.drop o).drop (j * q.size + (q.cells b).length) := by
      have e1 : List.drop o (cur.toList.take (o + j * q.size)) = (cur.toList.drop o).take (j * q.size) := by rw [List.drop_take]; congr 1; omega
      have e2 : (cur.toList.drop o).drop (j * q.size + (q.cells b).length) = cur.toList.drop (o + j * q.size + (q.cells b).length) := by rw [List.drop_drop]; congr 1; omega
      rw [e2]
      simp only [splice]
      rw [List.append_assoc, List.drop_append_of_le_length (by simp only [List.length_take, Array.length_toList]; omega), e1, List.append_assoc]
    rw [e]
    exact AbP d3 (by rw [hqa, hqb]) hcs (by rw [hqa]; exact hlen)
theorem LE {S : World → Prop} {v : Value} {l : List α} {j : Nat} {a : α} {K : Value → Prop} (hp : 0 < q.size)
    (hw : S w) (hS : ∀ u, S u → AB q u.heap v l) (hj : l[j]? = some a) (k : IntKind) (h : K (.agg (q.cells a).toArray)) : ixs q.size v (.int k (j : Int)) fun t => rdS S (fun w => ldN q.size t w.heap) K := by
  obtain ⟨g, o, c, rfl⟩ := (hS w hw).form hp hj
  have hlt := (List.getElem?_eq_some_iff.1 hj).1
  rw [DJ _ _ _ _ _ _ _ _ (by omega) (by omega), Int.toNat_natCast]
  refine ⟨.agg (q.cells a).toArray, fun z hz => ?_, h⟩
  have hat := At.of hp (hS z hz) hj
  exact (At.ldN hat (q.len a) _).mpr rfl
theorem ZP {v : Value} {l : List (Vec 32)} (hs : Sep w0 w (rows (rVec 32) v l :: As)) (hl : l.length ≤ 1000000) : cal P DD [v] w fun r w' => r = .tuple #[] ∧ Sep w0 w' (rows (rVec 32) v l.reverse :: As) := by
  refine IS fun R hR => ?_
  unfold E8
  simp only [(Sep.rows hs).len, fx, Nat.reduceAdd, forall_const]
  rw [wi64 (by omega) (by omega)]
  refine ⟨fun x y z => ∃ (i : Nat) (m : List (Vec 32)), x = .int .i64 i ∧ y = .int .i64 ((l.length : Int) - 1 - i) ∧ 2 * i ≤ l.length + 1 ∧ m.length = l.length ∧ (∀ p, p < l.length → m[p]? = if p < i ∨ l.length ≤ p + i then l[l.length - 1 - p]? else l[p]?) ∧ Sep w0 z (rows (rVec 32) v m :: As),
    fun x _ _ => (l.length - RowKit.intOf x).toNat, ⟨0, l, rfl, by simp, by omega, rfl, fun p hp => by rw [if_neg (by omega)], hs⟩, ?_⟩
  rintro _ _ w1 ⟨i, m, rfl, rfl, hi, hml, hm, hs1⟩ -
  simp only [fx, Nat.reduceAdd, forall_const]
  rw [Aj]
  refine ⟨fun h => ?_, fun h => ?_⟩
  · have hij : i + 1 + i < l.length := by simp at h; omega
    obtain ⟨j, hj⟩ : ∃ j : Nat, (l.length : Int) - 1 - i = (j : Int) := ⟨l.length - 1 - i, by omega⟩
    have hjl : j = l.length - 1 - i := by omega
    rw [hj]
    obtain ⟨a, c, rfl, hac⟩ := Sep.formR hs1
    have hmi := List.getElem?_eq_getElem (l := m) (i := i) (by omega)
    have hmj := List.getElem?_eq_getElem (l := m) (i := j) (by omega)
    generalize m[i] = x at hmi
    generalize m[j] = y at hmj
    refine A0 hs1 fun w2 hs2 _ => ?_
    refine LE (q := rVec 32) (by decide) hs2 (fun u hu => Sep.rows hu) hmj .i64 ?_
    refine LE (q := rVec 32) (by decide) hs2 (fun u hu => Sep.rows hu) hmi .i64 ?_
    obtain ⟨g, o, c', hv⟩ := (Sep.rows hs2).form (by decide) hmi
    simp only [Value.slice.injEq] at hv
    obtain ⟨rfl, _, rfl⟩ := hv
    rw [DJ _ _ _ _ _ _ _ _ (by omega) (by omega), Int.toNat_natCast]
    refine A9 (Aab hs2 hmi Ca fun w3 hs3 => ?_)
    rw [DJ _ _ _ _ _ _ _ _ (by omega) (by omega), Int.toNat_natCast]
    have hmj' : (m.set i y)[j]? = some y := by rw [List.getElem?_set_ne (by omega)]; exact hmj
    have e3 : m.length = (m.set i y).length := by simp
    rw [e3] at hs3
    refine A9 (Aab hs3 hmj' Ca fun w4 hs4 => ?_)
    rw [← e3] at hs4
    rw [wi64 (by omega) (by omega), wi64 (by omega) (by omega)]
    refine ⟨⟨i + 1, (m.set i y).set j x, by simp, by congr 1; omega, by omega, by simp [hml], fun p hp => ?_, hs4⟩, by simp [RowKit.intOf]; omega⟩
    have hmp := hm p hp
    have hix := hm i (by omega)
    have hjy := hm j (by omega)
    rw [if_neg (by omega)] at hix hjy
    by_cases hpj : p = j
    · subst hpj
      rw [List.getElem?_set_self (by simp; omega), if_pos (by omega), show l.length - 1 - p = i by omega, ← hix, hmi]
    · rw [List.getElem?_set_ne (by omega)]
      by_cases hpi : p = i
      · subst hpi
        rw [List.getElem?_set_self (by omega), if_pos (by omega), show l.length - 1 - p = j by omega, ← hjy, hmj]
      · rw [List.getElem?_set_ne (by omega), hmp]
        by_cases hc : p < i ∨ l.length ≤ p + i
        · rw [if_pos hc, if_pos (by omega)]
        · rw [if_neg hc, if_neg (by omega)]
  · have hge : l.length ≤ i + 1 + i := by simp at h; omega
    have e : m = l.reverse := by
      apply List.ext_getElem?
      intro p
      by_cases hp : p < l.length
      · rw [hm p hp, List.getElem?_reverse hp]
        by_cases hc : p < i ∨ l.length ≤ p + i
        · rw [if_pos hc]
        · rw [if_neg hc, show l.length - 1 - p = p by omega]
      · rw [List.getElem?_eq_none (by omega), List.getElem?_eq_none (by simp; omega)]
    rw [e] at hs1
    exact hR _ _ ⟨rfl, hs1⟩
end
end Go.Fx
