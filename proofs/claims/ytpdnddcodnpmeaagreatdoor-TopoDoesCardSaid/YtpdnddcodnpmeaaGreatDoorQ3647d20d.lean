/-
  Rows that are stored; slices.Reverse; the way to a name.
-/
import Derived.Lib.SlBytesConst
import Derived.MapKept
import Derived.WideKeyRuns
import Derived.Test.YtpdnddcodnpmeaaGreatDoorQb38b424b
import Derived.Test.YtpdnddcodnpmeaaGreatDoorQ6685d359
import Derived.Test.YtpdnddcodnpmeaaGreatDoorQ50ca596d
import Derived.Test.YtpdnddcodnpmeaaGreatDoorQdef0834c
import Derived.Test.YtpdnddcodnpmeaaGreatDoorQb572fa7c
import Derived.Test.YtpdnddcodnpmeaaGreatDoorQ6e297fb1
import Derived.Test.YtpdnddcodnpmeaaGreatDoorQf80623fe
import Derived.Test.YtpdnddcodnpmeaaGreatDoorQdcbdfa96
set_option linter.unusedVariables false
set_option maxRecDepth 100000
namespace Go.Fx
theorem KM {α : Type} {o : Option α} (h : o.isSome = true) : o ≠ none := by intro h2; rw [h2] at h; cases h
theorem Afx : P.underlying Ih = some (.int .i64) := by kernel_rfl
theorem U_int : P.underlying T_int = some (.int .i64) := by kernel_rfl
theorem Us : P.underlying Fu = some .bool := by kernel_rfl
theorem Ho : P.underlying DK = some (.int .u8) := by kernel_rfl
theorem OH : P.underlying AU = some (.struct (fsOf P AU)) := by kernel_rfl
theorem St : P.underlying Aa = some (.array 32 DK) := by kernel_rfl
theorem Ob : P.underlying B5 = some (.struct (fsOf P B5)) := by kernel_rfl
theorem M5 : P.underlying E8 = some (.slice Ba) := by kernel_rfl
theorem Dd : P.underlying Ay = some (.slice DK) := by kernel_rfl
theorem Ew : SlT P Ay DK 1 1 := ⟨by kernel_rfl, by kernel_rfl, by kernel_rfl, KM (by kernel_rfl), by kernel_rfl, by decide⟩
theorem MS : P.underlying HT = some (.slice Cr) := by kernel_rfl
theorem Rn : P.underlying Ba = some (.struct (fsOf P Ba)) := by kernel_rfl
theorem LW : P.underlying Al = some (.struct (fsOf P Al)) := by kernel_rfl
theorem D3 : P.underlying Av = some (.slice Aa) := by kernel_rfl
theorem Cp : SlT P Av Aa 32 32 := ⟨by kernel_rfl, by kernel_rfl, by kernel_rfl, KM (by kernel_rfl), by kernel_rfl, by decide⟩
theorem Acr : P.underlying Be = some (.slice Ih) := by kernel_rfl
theorem Ul : SlT P Be Ih 1 8 := ⟨by kernel_rfl, by kernel_rfl, by kernel_rfl, KM (by kernel_rfl), by kernel_rfl, by decide⟩
theorem NU : P.underlying CM = some (.struct (fsOf P CM)) := by kernel_rfl
theorem Fy : P.underlying A7 = some (.slice BA) := by kernel_rfl
theorem Dn : SlT P A7 BA 33 40 := ⟨by kernel_rfl, by kernel_rfl, by kernel_rfl, KM (by kernel_rfl), by kernel_rfl, by decide⟩
theorem EA : P.underlying A5 = some (.slice Bv) := by kernel_rfl
theorem Ct : SlT P A5 Bv 33 40 := ⟨by kernel_rfl, by kernel_rfl, by kernel_rfl, KM (by kernel_rfl), by kernel_rfl, by decide⟩
theorem TZ : P.underlying Aj = some (.struct (fsOf P Aj)) := by kernel_rfl
theorem PR : P.underlying A1 = some (.struct (fsOf P A1)) := by kernel_rfl
theorem AbY : P.underlying BA = some (.struct (fsOf P BA)) := by kernel_rfl
theorem Cw : P.underlying Bf = some (.map Aa Aj) := by kernel_rfl
theorem Aao : P.underlying Bo = some (.struct (fsOf P Bo)) := by kernel_rfl
theorem Hk : P.underlying Bp = some (.map Aa T_int) := by kernel_rfl
theorem Q9 : P.underlying Cr = some (.struct (fsOf P Cr)) := by kernel_rfl
theorem B4 : P.underlying AO = some (.map Aa Al) := by kernel_rfl
theorem R2 : P.underlying Bu = some (.struct (fsOf P Bu)) := by kernel_rfl
theorem EV : P.underlying Bj = some (.slice Ci) := by kernel_rfl
theorem C0 : SlT P Bj Ci 66 96 := ⟨by kernel_rfl, by kernel_rfl, by kernel_rfl, KM (by kernel_rfl), by kernel_rfl, by decide⟩
theorem Pk : P.underlying BK = some (.struct (fsOf P BK)) := by kernel_rfl
theorem Hr : P.underlying BD = some (.slice BB) := by kernel_rfl
theorem DP : SlT P BD BB 99 136 := ⟨by kernel_rfl, by kernel_rfl, by kernel_rfl, KM (by kernel_rfl), by kernel_rfl, by decide⟩
theorem OI : P.underlying BL = some (.struct (fsOf P BL)) := by kernel_rfl
theorem PO : P.underlying BB = some (.struct (fsOf P BB)) := by kernel_rfl
theorem Jo : P.underlying EO = some (.map Aa Fu) := by kernel_rfl
theorem PA : P.underlying Ci = some (.struct (fsOf P Ci)) := by kernel_rfl
theorem X4 : P.underlying Bv = some (.struct (fsOf P Bv)) := by kernel_rfl
theorem Xt : P.underlying Do = some (.struct (fsOf P Do)) := by kernel_rfl
theorem AeR : P.underlying SW = some (.int .u32) := by kernel_rfl
theorem Yj : P.underlying Bc = some (.array 64 SW) := by kernel_rfl
abbrev AI := (Rdr.pair (rInt .i64) (Rdr.pair (rInt .i64) (Rdr.pair (rInt .i64) (rInt .i64))))
theorem A9 {h : Heap} {g : Nat} {t : TypeId} {fr : Nat × Nat} {a} (hg : h[g]? = some (.cells (Rdr.cells AI a).toArray t fr)) (K : Value → Prop) : ldN 4 (.pointer (some ⟨g, 0, none⟩)) h K = K (.agg (Rdr.cells AI a).toArray) := Fld.ldN (r := AI) (s := AI) Fld.self hg K
theorem W1 {w0 w : World} {As : List Asn} {g : Nat} {t : TypeId} {a} {b} {K : World → Prop} (hs : Sep w0 w (blk g (Rdr.cells AI a).toArray t :: As)) (h1 : ∀ u ∈ Rdr.cells AI b, u.oneCell' = true) (h : ∀ w', Sep w0 w' (blk g (Rdr.cells AI b).toArray t :: As) → K w') : stN 4 (.pointer (some ⟨g, 0, none⟩)) (.agg (Rdr.cells AI b).toArray) w K := Fld.stN (r := AI) (s := AI) Fld.self hs h1 h
theorem AT {h : Heap} {g : Nat} {t : TypeId} {fr : Nat × Nat} {a} (hg : h[g]? = some (.cells (Rdr.cells AI a).toArray t fr)) (K : Value → Prop) : ld1 (.pointer (some ⟨g, 0, none⟩)) h K = K (.int .i64 a.1) := Fld.ldI (r := AI) (Fld.fst Fld.self) hg K
theorem AD {h : Heap} {g : Nat} {t : TypeId} {fr : Nat × Nat} {a} (hg : h[g]? = some (.cells (Rdr.cells AI a).toArray t fr)) (K : Value → Prop) : ld1 (.pointer (some ⟨g, 1, none⟩)) h K = K (.int .i64 a.2.1) := Fld.ldI (r := AI) (Fld.snd (Fld.fst Fld.self)) hg K
theorem AE {h : Heap} {g : Nat} {t : TypeId} {fr : Nat × Nat} {a} (hg : h[g]? = some (.cells (Rdr.cells AI a).toArray t fr)) (K : Value → Prop) : ld1 (.pointer (some ⟨g, 2, none⟩)) h K = K (.int .i64 a.2.2.1) := Fld.ldI (r := AI) (Fld.snd (Fld.snd (Fld.fst Fld.self))) hg K
theorem AM {h : Heap} {g : Nat} {t : TypeId} {fr : Nat × Nat} {a} (hg : h[g]? = some (.cells (Rdr.cells AI a).toArray t fr)) (K : Value → Prop) : ld1 (.pointer (some ⟨g, 3, none⟩)) h K = K (.int .i64 a.2.2.2) := Fld.ldI (r := AI) (Fld.snd (Fld.snd (Fld.snd Fld.self))) hg K
theorem Vr {a}  : ∀ u ∈ Rdr.cells AI a, u.oneCell' = true := (BO oneI (BO oneI (BO oneI oneI)))
theorem YB (w : World) : (Instr.alloc AU true (.tuple #[])).run P w = .ok (.pointer (some ⟨w.heap.size, 0, none⟩)) (w.alloc (.cells (Rdr.cells AI ((0 : Int), (0 : Int), (0 : Int), (0 : Int))).toArray AU)) := by kernel_rfl
theorem WK : ((fsOf P AU).toList.mapM fun f : Field => (P.info? f.type).map fun i => (f.offset, i.size)) = some (#[(0, 1), (1, 1), (2, 1), (3, 1)] : Array (Nat × Nat)).toList := by kernel_rfl
theorem Za : ((P.info? AU).bind fun it => it.zero.map fun z => z.cells) = some (Rdr.cells AI ((0 : Int), (0 : Int), (0 : Int), (0 : Int))).toArray := by kernel_rfl
abbrev AQ := (Rdr.pair AI (Rdr.pair (rVec 32) (Rdr.pair (rInt .i64) (rInt .i64))))
theorem B6 {h : Heap} {g : Nat} {t : TypeId} {fr : Nat × Nat} {a} (hg : h[g]? = some (.cells (Rdr.cells AQ a).toArray t fr)) (K : Value → Prop) : ldN 38 (.pointer (some ⟨g, 0, none⟩)) h K = K (.agg (Rdr.cells AQ a).toArray) := Fld.ldN (r := AQ) (s := AQ) Fld.self hg K
theorem BS {h : Heap} {g : Nat} {t : TypeId} {fr : Nat × Nat} {a} (hg : h[g]? = some (.cells (Rdr.cells AQ a).toArray t fr)) (K : Value → Prop) : ldN 4 (.pointer (some ⟨g, 0, none⟩)) h K = K (.agg (Rdr.cells AI a.1).toArray) := Fld.ldN (r := AQ) (s := AI) (Fld.fst Fld.self) hg K
theorem BM {h : Heap} {g : Nat} {t : TypeId} {fr : Nat × Nat} {a} (hg : h[g]? = some (.cells (Rdr.cells AQ a).toArray t fr)) (K : Value → Prop) : ld1 (.pointer (some ⟨g, 0, none⟩)) h K = K (.int .i64 a.1.1) := Fld.ldI (r := AQ) (Fld.fst (Fld.fst Fld.self)) hg K
theorem Bk {h : Heap} {g : Nat} {t : TypeId} {fr : Nat × Nat} {a} (hg : h[g]? = some (.cells (Rdr.cells AQ a).toArray t fr)) (K : Value → Prop) : ld1 (.pointer (some ⟨g, 1, none⟩)) h K = K (.int .i64 a.1.2.1) := Fld.ldI (r := AQ) (Fld.fst (Fld.snd (Fld.fst Fld.self))) hg K
theorem Bm {h : Heap} {g : Nat} {t : TypeId} {fr : Nat × Nat} {a} (hg : h[g]? = some (.cells (Rdr.cells AQ a).toArray t fr)) (K : Value → Prop) : ld1 (.pointer (some ⟨g, 2, none⟩)) h K = K (.int .i64 a.1.2.2.1) := Fld.ldI (r := AQ) (Fld.fst (Fld.snd (Fld.snd (Fld.fst Fld.self)))) hg K
theorem By {h : Heap} {g : Nat} {t : TypeId} {fr : Nat × Nat} {a} (hg : h[g]? = some (.cells (Rdr.cells AQ a).toArray t fr)) (K : Value → Prop) : ld1 (.pointer (some ⟨g, 3, none⟩)) h K = K (.int .i64 a.1.2.2.2) := Fld.ldI (r := AQ) (Fld.fst (Fld.snd (Fld.snd (Fld.snd Fld.self)))) hg K
theorem BG {h : Heap} {g : Nat} {t : TypeId} {fr : Nat × Nat} {a} (hg : h[g]? = some (.cells (Rdr.cells AQ a).toArray t fr)) (K : Value → Prop) : ldN 32 (.pointer (some ⟨g, 4, none⟩)) h K = K (.agg (Rdr.cells (rVec 32) a.2.1).toArray) := Fld.ldN (r := AQ) (s := (rVec 32)) (Fld.snd (Fld.fst Fld.self)) hg K
theorem Bz {h : Heap} {g : Nat} {t : TypeId} {fr : Nat × Nat} {a} (hg : h[g]? = some (.cells (Rdr.cells AQ a).toArray t fr)) (K : Value → Prop) : ld1 (.pointer (some ⟨g, 36, none⟩)) h K = K (.int .i64 a.2.2.1) := Fld.ldI (r := AQ) (Fld.snd (Fld.snd (Fld.fst Fld.self))) hg K
theorem BH {h : Heap} {g : Nat} {t : TypeId} {fr : Nat × Nat} {a} (hg : h[g]? = some (.cells (Rdr.cells AQ a).toArray t fr)) (K : Value → Prop) : ld1 (.pointer (some ⟨g, 37, none⟩)) h K = K (.int .i64 a.2.2.2) := Fld.ldI (r := AQ) (Fld.snd (Fld.snd (Fld.snd Fld.self))) hg K
abbrev AK := (Rdr.pair rBool (Rdr.pair (rInt .u8) (Rdr.pair qv qv)))
theorem B9 {h : Heap} {g : Nat} {t : TypeId} {fr : Nat × Nat} {a} (hg : h[g]? = some (.cells (Rdr.cells AK a).toArray t fr)) (K : Value → Prop) : ldN 4 (.pointer (some ⟨g, 0, none⟩)) h K = K (.agg (Rdr.cells AK a).toArray) := Fld.ldN (r := AK) (s := AK) Fld.self hg K
theorem I3 {w0 w : World} {As : List Asn} {g : Nat} {t : TypeId} {a} {b} {K : World → Prop} (hs : Sep w0 w (blk g (Rdr.cells AK a).toArray t :: As)) (h1 : ∀ u ∈ Rdr.cells AK b, u.oneCell' = true) (h : ∀ w', Sep w0 w' (blk g (Rdr.cells AK b).toArray t :: As) → K w') : stN 4 (.pointer (some ⟨g, 0, none⟩)) (.agg (Rdr.cells AK b).toArray) w K := Fld.stN (r := AK) (s := AK) Fld.self hs h1 h
theorem CH {h : Heap} {g : Nat} {t : TypeId} {fr : Nat × Nat} {a} (hg : h[g]? = some (.cells (Rdr.cells AK a).toArray t fr)) (K : Value → Prop) : ld1 (.pointer (some ⟨g, 0, none⟩)) h K = K (.bool a.1) := Fld.ldB (r := AK) (Fld.fst Fld.self) hg K
theorem Db {h : Heap} {g : Nat} {t : TypeId} {fr : Nat × Nat} {a} (hg : h[g]? = some (.cells (Rdr.cells AK a).toArray t fr)) (K : Value → Prop) : ld1 (.pointer (some ⟨g, 1, none⟩)) h K = K (.int .u8 a.2.1) := Fld.ldI (r := AK) (Fld.snd (Fld.fst Fld.self)) hg K
theorem Cj {h : Heap} {g : Nat} {t : TypeId} {fr : Nat × Nat} {a} (hg : h[g]? = some (.cells (Rdr.cells AK a).toArray t fr)) (K : Value → Prop) : ld1 (.pointer (some ⟨g, 2, none⟩)) h K = K (a.2.2.1) := Fld.ld1 (r := AK) (Fld.snd (Fld.snd (Fld.fst Fld.self))) hg K
theorem Cy {h : Heap} {g : Nat} {t : TypeId} {fr : Nat × Nat} {a} (hg : h[g]? = some (.cells (Rdr.cells AK a).toArray t fr)) (K : Value → Prop) : ld1 (.pointer (some ⟨g, 3, none⟩)) h K = K (a.2.2.2) := Fld.ld1 (r := AK) (Fld.snd (Fld.snd (Fld.snd Fld.self))) hg K
theorem HX {a} (h0 : (a.2.2.1).oneCell' = true) (h1 : (a.2.2.2).oneCell' = true) : ∀ u ∈ Rdr.cells AK a, u.oneCell' = true := (BO oneB (BO oneI (BO (oneV h0) (oneV h1))))
theorem Jp (w : World) : (Instr.alloc Ba true (.tuple #[])).run P w = .ok (.pointer (some ⟨w.heap.size, 0, none⟩)) (w.alloc (.cells (Rdr.cells AK (false, (0 : Int), ((Value.slice none 0 0)), ((Value.slice none 0 0)))).toArray Ba)) := by kernel_rfl
abbrev Au := (Rdr.pair (rVec 32) (Rdr.pair (rInt .i64) qv))
theorem Az {h : Heap} {g : Nat} {t : TypeId} {fr : Nat × Nat} {a} (hg : h[g]? = some (.cells (Rdr.cells Au a).toArray t fr)) (K : Value → Prop) : ldN 34 (.pointer (some ⟨g, 0, none⟩)) h K = K (.agg (Rdr.cells Au a).toArray) := Fld.ldN (r := Au) (s := Au) Fld.self hg K
theorem Bd {w0 w : World} {As : List Asn} {g : Nat} {t : TypeId} {a} {b} {K : World → Prop} (hs : Sep w0 w (blk g (Rdr.cells Au a).toArray t :: As)) (h1 : ∀ u ∈ Rdr.cells Au b, u.oneCell' = true) (h : ∀ w', Sep w0 w' (blk g (Rdr.cells Au b).toArray t :: As) → K w') : stN 34 (.pointer (some ⟨g, 0, none⟩)) (.agg (Rdr.cells Au b).toArray) w K := Fld.stN (r := Au) (s := Au) Fld.self hs h1 h
theorem Ak {h : Heap} {g : Nat} {t : TypeId} {fr : Nat × Nat} {a} (hg : h[g]? = some (.cells (Rdr.cells Au a).toArray t fr)) (K : Value → Prop) : ldN 32 (.pointer (some ⟨g, 0, none⟩)) h K = K (.agg (Rdr.cells (rVec 32) a.1).toArray) := Fld.ldN (r := Au) (s := (rVec 32)) (Fld.fst Fld.self) hg K
theorem Am {h : Heap} {g : Nat} {t : TypeId} {fr : Nat × Nat} {a} (hg : h[g]? = some (.cells (Rdr.cells Au a).toArray t fr)) (K : Value → Prop) : ld1 (.pointer (some ⟨g, 32, none⟩)) h K = K (.int .i64 a.2.1) := Fld.ldI (r := Au) (Fld.snd (Fld.fst Fld.self)) hg K
theorem Aw {h : Heap} {g : Nat} {t : TypeId} {fr : Nat × Nat} {a} (hg : h[g]? = some (.cells (Rdr.cells Au a).toArray t fr)) (K : Value → Prop) : ld1 (.pointer (some ⟨g, 33, none⟩)) h K = K (a.2.2) := Fld.ld1 (r := Au) (Fld.snd (Fld.snd Fld.self)) hg K
theorem I1 {w0 w : World} {As : List Asn} {g : Nat} {t : TypeId} {a} {b} {K : World → Prop} (hs : Sep w0 w (blk g (Rdr.cells Au a).toArray t :: As)) (h1 : b.oneCell' = true) (h : ∀ w', Sep w0 w' (blk g (Rdr.cells Au (a.1, a.2.1, b)).toArray t :: As) → K w') : st1 (.pointer (some ⟨g, 33, none⟩)) (b) w K := Fld.stV (r := Au) (s := qv) (Fld.snd (Fld.snd Fld.self)) rfl hs h1 h
theorem A8 {a} (h0 : (a.2.2).oneCell' = true) : ∀ u ∈ Rdr.cells Au a, u.oneCell' = true := (BO BW (BO oneI (oneV h0)))
theorem Bt (w : World) : (Instr.alloc Al true (.tuple #[])).run P w = .ok (.pointer (some ⟨w.heap.size, 0, none⟩)) (w.alloc (.cells (Rdr.cells Au ((vz 32), (0 : Int), ((Value.slice none 0 0)))).toArray Al)) := by kernel_rfl
theorem KI : ((fsOf P Al).toList.mapM fun f : Field => (P.info? f.type).map fun i => (f.offset, i.size)) = some (#[(0, 32), (32, 1), (33, 1)] : Array (Nat × Nat)).toList := by kernel_rfl
theorem LE : ((P.info? Al).bind fun it => it.zero.map fun z => z.cells) = some (Rdr.cells Au ((vz 32), (0 : Int), ((Value.slice none 0 0)))).toArray := by kernel_rfl
abbrev B7 := (Rdr.pair qv qv)
theorem Nn : ((fsOf P CM).toList.mapM fun f : Field => (P.info? f.type).map fun i => (f.offset, i.size)) = some (#[(0, 1), (1, 1)] : Array (Nat × Nat)).toList := by kernel_rfl
theorem Om : ((P.info? CM).bind fun it => it.zero.map fun z => z.cells) = some (Rdr.cells B7 (((Value.slice none 0 0)), ((Value.slice none 0 0)))).toArray := by kernel_rfl
abbrev Dy := (Rdr.pair qv (Rdr.pair B7 (Rdr.pair qv qv)))
theorem L3 {h : Heap} {g : Nat} {t : TypeId} {fr : Nat × Nat} {a} (hg : h[g]? = some (.cells (Rdr.cells Dy a).toArray t fr)) (K : Value → Prop) : ld1 (.pointer (some ⟨g, 0, none⟩)) h K = K (a.1) := Fld.ld1 (r := Dy) (Fld.fst Fld.self) hg K
theorem Jl {h : Heap} {g : Nat} {t : TypeId} {fr : Nat × Nat} {a} (hg : h[g]? = some (.cells (Rdr.cells Dy a).toArray t fr)) (K : Value → Prop) : ld1 (.pointer (some ⟨g, 1, none⟩)) h K = K (a.2.1.1) := Fld.ld1 (r := Dy) (Fld.snd (Fld.fst (Fld.fst Fld.self))) hg K
abbrev Ap := (Rdr.pair qv (Rdr.pair (rVec 32) (Rdr.pair (rVec 32) (Rdr.pair (rInt .i64) rBool))))
theorem Aq {h : Heap} {g : Nat} {t : TypeId} {fr : Nat × Nat} {a} (hg : h[g]? = some (.cells (Rdr.cells Ap a).toArray t fr)) (K : Value → Prop) : ldN 67 (.pointer (some ⟨g, 0, none⟩)) h K = K (.agg (Rdr.cells Ap a).toArray) := Fld.ldN (r := Ap) (s := Ap) Fld.self hg K
theorem AH {w0 w : World} {As : List Asn} {g : Nat} {t : TypeId} {a} {b} {K : World → Prop} (hs : Sep w0 w (blk g (Rdr.cells Ap a).toArray t :: As)) (h1 : ∀ u ∈ Rdr.cells Ap b, u.oneCell' = true) (h : ∀ w', Sep w0 w' (blk g (Rdr.cells Ap b).toArray t :: As) → K w') : stN 67 (.pointer (some ⟨g, 0, none⟩)) (.agg (Rdr.cells Ap b).toArray) w K := Fld.stN (r := Ap) (s := Ap) Fld.self hs h1 h
theorem Ae {h : Heap} {g : Nat} {t : TypeId} {fr : Nat × Nat} {a} (hg : h[g]? = some (.cells (Rdr.cells Ap a).toArray t fr)) (K : Value → Prop) : ld1 (.pointer (some ⟨g, 0, none⟩)) h K = K (a.1) := Fld.ld1 (r := Ap) (Fld.fst Fld.self) hg K
theorem DQ {w0 w : World} {As : List Asn} {g : Nat} {t : TypeId} {a} {b} {K : World → Prop} (hs : Sep w0 w (blk g (Rdr.cells Ap a).toArray t :: As)) (h1 : b.oneCell' = true) (h : ∀ w', Sep w0 w' (blk g (Rdr.cells Ap (b, a.2.1, a.2.2.1, a.2.2.2.1, a.2.2.2.2)).toArray t :: As) → K w') : st1 (.pointer (some ⟨g, 0, none⟩)) (b) w K := Fld.stV (r := Ap) (s := qv) (Fld.fst Fld.self) rfl hs h1 h
theorem Ad {h : Heap} {g : Nat} {t : TypeId} {fr : Nat × Nat} {a} (hg : h[g]? = some (.cells (Rdr.cells Ap a).toArray t fr)) (K : Value → Prop) : ldN 32 (.pointer (some ⟨g, 1, none⟩)) h K = K (.agg (Rdr.cells (rVec 32) a.2.1).toArray) := Fld.ldN (r := Ap) (s := (rVec 32)) (Fld.snd (Fld.fst Fld.self)) hg K
theorem Js {w0 w : World} {As : List Asn} {g : Nat} {t : TypeId} {a} {b} {K : World → Prop} (hs : Sep w0 w (blk g (Rdr.cells Ap a).toArray t :: As)) (h1 : ∀ u ∈ Rdr.cells (rVec 32) b, u.oneCell' = true) (h : ∀ w', Sep w0 w' (blk g (Rdr.cells Ap (a.1, b, a.2.2.1, a.2.2.2.1, a.2.2.2.2)).toArray t :: As) → K w') : stN 32 (.pointer (some ⟨g, 1, none⟩)) (.agg (Rdr.cells (rVec 32) b).toArray) w K := Fld.stN (r := Ap) (s := (rVec 32)) (Fld.snd (Fld.fst Fld.self)) hs h1 h
theorem Ac {h : Heap} {g : Nat} {t : TypeId} {fr : Nat × Nat} {a} (hg : h[g]? = some (.cells (Rdr.cells Ap a).toArray t fr)) (K : Value → Prop) : ldN 32 (.pointer (some ⟨g, 33, none⟩)) h K = K (.agg (Rdr.cells (rVec 32) a.2.2.1).toArray) := Fld.ldN (r := Ap) (s := (rVec 32)) (Fld.snd (Fld.snd (Fld.fst Fld.self))) hg K
theorem IR {w0 w : World} {As : List Asn} {g : Nat} {t : TypeId} {a} {b} {K : World → Prop} (hs : Sep w0 w (blk g (Rdr.cells Ap a).toArray t :: As)) (h1 : ∀ u ∈ Rdr.cells (rVec 32) b, u.oneCell' = true) (h : ∀ w', Sep w0 w' (blk g (Rdr.cells Ap (a.1, a.2.1, b, a.2.2.2.1, a.2.2.2.2)).toArray t :: As) → K w') : stN 32 (.pointer (some ⟨g, 33, none⟩)) (.agg (Rdr.cells (rVec 32) b).toArray) w K := Fld.stN (r := Ap) (s := (rVec 32)) (Fld.snd (Fld.snd (Fld.fst Fld.self))) hs h1 h
theorem Af {h : Heap} {g : Nat} {t : TypeId} {fr : Nat × Nat} {a} (hg : h[g]? = some (.cells (Rdr.cells Ap a).toArray t fr)) (K : Value → Prop) : ld1 (.pointer (some ⟨g, 65, none⟩)) h K = K (.int .i64 a.2.2.2.1) := Fld.ldI (r := Ap) (Fld.snd (Fld.snd (Fld.snd (Fld.fst Fld.self)))) hg K
theorem Dk {w0 w : World} {As : List Asn} {g : Nat} {t : TypeId} {a} {b} {K : World → Prop} (hs : Sep w0 w (blk g (Rdr.cells Ap a).toArray t :: As)) (h : ∀ w', Sep w0 w' (blk g (Rdr.cells Ap (a.1, a.2.1, a.2.2.1, b, a.2.2.2.2)).toArray t :: As) → K w') : st1 (.pointer (some ⟨g, 65, none⟩)) (.int .i64 b) w K := Fld.stV (r := Ap) (s := (rInt .i64)) (Fld.snd (Fld.snd (Fld.snd (Fld.fst Fld.self)))) rfl hs rfl h
theorem Ag {h : Heap} {g : Nat} {t : TypeId} {fr : Nat × Nat} {a} (hg : h[g]? = some (.cells (Rdr.cells Ap a).toArray t fr)) (K : Value → Prop) : ld1 (.pointer (some ⟨g, 66, none⟩)) h K = K (.bool a.2.2.2.2) := Fld.ldB (r := Ap) (Fld.snd (Fld.snd (Fld.snd (Fld.snd Fld.self)))) hg K
theorem Jy {w0 w : World} {As : List Asn} {g : Nat} {t : TypeId} {a} {b} {K : World → Prop} (hs : Sep w0 w (blk g (Rdr.cells Ap a).toArray t :: As)) (h : ∀ w', Sep w0 w' (blk g (Rdr.cells Ap (a.1, a.2.1, a.2.2.1, a.2.2.2.1, b)).toArray t :: As) → K w') : st1 (.pointer (some ⟨g, 66, none⟩)) (.bool b) w K := Fld.stV (r := Ap) (s := rBool) (Fld.snd (Fld.snd (Fld.snd (Fld.snd Fld.self)))) rfl hs rfl h
theorem AA {a} (h0 : (a.1).oneCell' = true) : ∀ u ∈ Rdr.cells Ap a, u.oneCell' = true := (BO (oneV h0) (BO BW (BO BW (BO oneI oneB))))
theorem Bh (w : World) : (Instr.alloc Aj true (.tuple #[])).run P w = .ok (.pointer (some ⟨w.heap.size, 0, none⟩)) (w.alloc (.cells (Rdr.cells Ap (((Value.slice none 0 0)), (vz 32), (vz 32), (0 : Int), false)).toArray Aj)) := by kernel_rfl
theorem Ry : ((fsOf P Aj).toList.mapM fun f : Field => (P.info? f.type).map fun i => (f.offset, i.size)) = some (#[(0, 1), (1, 32), (33, 32), (65, 1), (66, 1)] : Array (Nat × Nat)).toList := by kernel_rfl
theorem UK : ((P.info? Aj).bind fun it => it.zero.map fun z => z.cells) = some (Rdr.cells Ap (((Value.slice none 0 0)), (vz 32), (vz 32), (0 : Int), false)).toArray := by kernel_rfl
abbrev AS := (Rdr.pair qv (Rdr.pair qv B7))
theorem Hp {h : Heap} {g : Nat} {t : TypeId} {fr : Nat × Nat} {a} (hg : h[g]? = some (.cells (Rdr.cells AS a).toArray t fr)) (K : Value → Prop) : ld1 (.pointer (some ⟨g, 0, none⟩)) h K = K (a.1) := Fld.ld1 (r := AS) (Fld.fst Fld.self) hg K
theorem DN {h : Heap} {g : Nat} {t : TypeId} {fr : Nat × Nat} {a} (hg : h[g]? = some (.cells (Rdr.cells AS a).toArray t fr)) (K : Value → Prop) : ld1 (.pointer (some ⟨g, 1, none⟩)) h K = K (a.2.1) := Fld.ld1 (r := AS) (Fld.snd (Fld.fst Fld.self)) hg K
theorem JX {h : Heap} {g : Nat} {t : TypeId} {fr : Nat × Nat} {a} (hg : h[g]? = some (.cells (Rdr.cells AS a).toArray t fr)) (K : Value → Prop) : ld1 (.pointer (some ⟨g, 2, none⟩)) h K = K (a.2.2.1) := Fld.ld1 (r := AS) (Fld.snd (Fld.snd (Fld.fst Fld.self))) hg K
theorem NT : ((fsOf P A1).toList.mapM fun f : Field => (P.info? f.type).map fun i => (f.offset, i.size)) = some (#[(0, 1), (1, 1), (2, 2)] : Array (Nat × Nat)).toList := by kernel_rfl
theorem PP : ((P.info? A1).bind fun it => it.zero.map fun z => z.cells) = some (Rdr.cells AS (((Value.pointer none)), ((Value.pointer none)), (((Value.slice none 0 0)), ((Value.slice none 0 0))))).toArray := by kernel_rfl
abbrev Ar := (Rdr.pair (rVec 32) (rInt .i64))
theorem MP {h : Heap} {g : Nat} {t : TypeId} {fr : Nat × Nat} {a} (hg : h[g]? = some (.cells (Rdr.cells Ar a).toArray t fr)) (K : Value → Prop) : ldN 33 (.pointer (some ⟨g, 0, none⟩)) h K = K (.agg (Rdr.cells Ar a).toArray) := Fld.ldN (r := Ar) (s := Ar) Fld.self hg K
theorem LV {w0 w : World} {As : List Asn} {g : Nat} {t : TypeId} {a} {b} {K : World → Prop} (hs : Sep w0 w (blk g (Rdr.cells Ar a).toArray t :: As)) (h1 : ∀ u ∈ Rdr.cells Ar b, u.oneCell' = true) (h : ∀ w', Sep w0 w' (blk g (Rdr.cells Ar b).toArray t :: As) → K w') : stN 33 (.pointer (some ⟨g, 0, none⟩)) (.agg (Rdr.cells Ar b).toArray) w K := Fld.stN (r := Ar) (s := Ar) Fld.self hs h1 h
theorem Gs {h : Heap} {g : Nat} {t : TypeId} {fr : Nat × Nat} {a} (hg : h[g]? = some (.cells (Rdr.cells Ar a).toArray t fr)) (K : Value → Prop) : ldN 32 (.pointer (some ⟨g, 0, none⟩)) h K = K (.agg (Rdr.cells (rVec 32) a.1).toArray) := Fld.ldN (r := Ar) (s := (rVec 32)) (Fld.fst Fld.self) hg K
theorem Lm {h : Heap} {g o : Nat} {a} (hg : At h g o (Rdr.cells Ar a)) (K : Value → Prop) : ldN 32 (.pointer (some ⟨g, o, none⟩)) h K = K (.agg (Rdr.cells (rVec 32) a.1).toArray) := Fld.ldNA (r := Ar) (s := (rVec 32)) (Fld.fst Fld.self) hg K
theorem Fs {h : Heap} {g : Nat} {t : TypeId} {fr : Nat × Nat} {a} (hg : h[g]? = some (.cells (Rdr.cells Ar a).toArray t fr)) (K : Value → Prop) : ld1 (.pointer (some ⟨g, 32, none⟩)) h K = K (.int .i64 a.2) := Fld.ldI (r := Ar) (Fld.snd Fld.self) hg K
theorem Iy {h : Heap} {g o : Nat} {a} (hg : At h g o (Rdr.cells Ar a)) (K : Value → Prop) : ld1 (.pointer (some ⟨g, o + 32, none⟩)) h K = K (.int .i64 a.2) := Fld.ldI' (r := Ar) (Fld.snd Fld.self) hg K
theorem Nm (w : World) : (Instr.alloc BA true (.tuple #[])).run P w = .ok (.pointer (some ⟨w.heap.size, 0, none⟩)) (w.alloc (.cells (Rdr.cells Ar ((vz 32), (0 : Int))).toArray BA)) := by kernel_rfl
theorem Aa3 : ((fsOf P BA).toList.mapM fun f : Field => (P.info? f.type).map fun i => (f.offset, i.size)) = some (#[(0, 32), (32, 1)] : Array (Nat × Nat)).toList := by kernel_rfl
theorem Ab5 : ((P.info? BA).bind fun it => it.zero.map fun z => z.cells) = some (Rdr.cells Ar ((vz 32), (0 : Int))).toArray := by kernel_rfl
abbrev AN := (Rdr.pair qv (Rdr.pair AI qv))
theorem Aas {h : Heap} {g : Nat} {t : TypeId} {fr : Nat × Nat} {a} (hg : h[g]? = some (.cells (Rdr.cells AN a).toArray t fr)) (K : Value → Prop) : ldN 6 (.pointer (some ⟨g, 0, none⟩)) h K = K (.agg (Rdr.cells AN a).toArray) := Fld.ldN (r := AN) (s := AN) Fld.self hg K
theorem EC {h : Heap} {g : Nat} {t : TypeId} {fr : Nat × Nat} {a} (hg : h[g]? = some (.cells (Rdr.cells AN a).toArray t fr)) (K : Value → Prop) : ld1 (.pointer (some ⟨g, 0, none⟩)) h K = K (a.1) := Fld.ld1 (r := AN) (Fld.fst Fld.self) hg K
theorem EY {h : Heap} {g : Nat} {t : TypeId} {fr : Nat × Nat} {a} (hg : h[g]? = some (.cells (Rdr.cells AN a).toArray t fr)) (K : Value → Prop) : ldN 4 (.pointer (some ⟨g, 1, none⟩)) h K = K (.agg (Rdr.cells AI a.2.1).toArray) := Fld.ldN (r := AN) (s := AI) (Fld.snd (Fld.fst Fld.self)) hg K
theorem Ki {h : Heap} {g : Nat} {t : TypeId} {fr : Nat × Nat} {a} (hg : h[g]? = some (.cells (Rdr.cells AN a).toArray t fr)) (K : Value → Prop) : ld1 (.pointer (some ⟨g, 1, none⟩)) h K = K (.int .i64 a.2.1.1) := Fld.ldI (r := AN) (Fld.snd (Fld.fst (Fld.fst Fld.self))) hg K
theorem Gj {h : Heap} {g : Nat} {t : TypeId} {fr : Nat × Nat} {a} (hg : h[g]? = some (.cells (Rdr.cells AN a).toArray t fr)) (K : Value → Prop) : ld1 (.pointer (some ⟨g, 2, none⟩)) h K = K (.int .i64 a.2.1.2.1) := Fld.ldI (r := AN) (Fld.snd (Fld.fst (Fld.snd (Fld.fst Fld.self)))) hg K
theorem Ke {h : Heap} {g : Nat} {t : TypeId} {fr : Nat × Nat} {a} (hg : h[g]? = some (.cells (Rdr.cells AN a).toArray t fr)) (K : Value → Prop) : ld1 (.pointer (some ⟨g, 3, none⟩)) h K = K (.int .i64 a.2.1.2.2.1) := Fld.ldI (r := AN) (Fld.snd (Fld.fst (Fld.snd (Fld.snd (Fld.fst Fld.self))))) hg K
theorem NQ {h : Heap} {g : Nat} {t : TypeId} {fr : Nat × Nat} {a} (hg : h[g]? = some (.cells (Rdr.cells AN a).toArray t fr)) (K : Value → Prop) : ld1 (.pointer (some ⟨g, 4, none⟩)) h K = K (.int .i64 a.2.1.2.2.2) := Fld.ldI (r := AN) (Fld.snd (Fld.fst (Fld.snd (Fld.snd (Fld.snd Fld.self))))) hg K
theorem C4 {h : Heap} {g : Nat} {t : TypeId} {fr : Nat × Nat} {a} (hg : h[g]? = some (.cells (Rdr.cells AN a).toArray t fr)) (K : Value → Prop) : ld1 (.pointer (some ⟨g, 5, none⟩)) h K = K (a.2.2) := Fld.ld1 (r := AN) (Fld.snd (Fld.snd Fld.self)) hg K
theorem Oi {w0 w : World} {As : List Asn} {g : Nat} {t : TypeId} {a} {b} {K : World → Prop} (hs : Sep w0 w (blk g (Rdr.cells AN a).toArray t :: As)) (h1 : b.oneCell' = true) (h : ∀ w', Sep w0 w' (blk g (Rdr.cells AN (a.1, a.2.1, b)).toArray t :: As) → K w') : st1 (.pointer (some ⟨g, 5, none⟩)) (b) w K := Fld.stV (r := AN) (s := qv) (Fld.snd (Fld.snd Fld.self)) rfl hs h1 h
theorem XP : ((fsOf P Bo).toList.mapM fun f : Field => (P.info? f.type).map fun i => (f.offset, i.size)) = some (#[(0, 1), (1, 4), (5, 1)] : Array (Nat × Nat)).toList := by kernel_rfl
theorem Aai : ((P.info? Bo).bind fun it => it.zero.map fun z => z.cells) = some (Rdr.cells AN (((Value.pointer none)), ((0 : Int), (0 : Int), (0 : Int), (0 : Int)), ((Value.map none)))).toArray := by kernel_rfl
abbrev A6 := (Rdr.pair (rInt .u8) (rInt .i64))
theorem GB {h : Heap} {g : Nat} {t : TypeId} {fr : Nat × Nat} {a} (hg : h[g]? = some (.cells (Rdr.cells A6 a).toArray t fr)) (K : Value → Prop) : ldN 2 (.pointer (some ⟨g, 0, none⟩)) h K = K (.agg (Rdr.cells A6 a).toArray) := Fld.ldN (r := A6) (s := A6) Fld.self hg K
theorem Px {w0 w : World} {As : List Asn} {g : Nat} {t : TypeId} {a} {b} {K : World → Prop} (hs : Sep w0 w (blk g (Rdr.cells A6 a).toArray t :: As)) (h1 : ∀ u ∈ Rdr.cells A6 b, u.oneCell' = true) (h : ∀ w', Sep w0 w' (blk g (Rdr.cells A6 b).toArray t :: As) → K w') : stN 2 (.pointer (some ⟨g, 0, none⟩)) (.agg (Rdr.cells A6 b).toArray) w K := Fld.stN (r := A6) (s := A6) Fld.self hs h1 h
theorem DY {h : Heap} {g : Nat} {t : TypeId} {fr : Nat × Nat} {a} (hg : h[g]? = some (.cells (Rdr.cells A6 a).toArray t fr)) (K : Value → Prop) : ld1 (.pointer (some ⟨g, 0, none⟩)) h K = K (.int .u8 a.1) := Fld.ldI (r := A6) (Fld.fst Fld.self) hg K
theorem Fd {h : Heap} {g : Nat} {t : TypeId} {fr : Nat × Nat} {a} (hg : h[g]? = some (.cells (Rdr.cells A6 a).toArray t fr)) (K : Value → Prop) : ld1 (.pointer (some ⟨g, 1, none⟩)) h K = K (.int .i64 a.2) := Fld.ldI (r := A6) (Fld.snd Fld.self) hg K
theorem Oj {a}  : ∀ u ∈ Rdr.cells A6 a, u.oneCell' = true := (BO oneI oneI)
theorem QB (w : World) : (Instr.alloc Cr true (.tuple #[])).run P w = .ok (.pointer (some ⟨w.heap.size, 0, none⟩)) (w.alloc (.cells (Rdr.cells A6 ((0 : Int), (0 : Int))).toArray Cr)) := by kernel_rfl
abbrev AJ := (Rdr.pair rBool (Rdr.pair (rVec 32) (Rdr.pair (rInt .i64) (Rdr.pair (rInt .i64) (Rdr.pair qv qv)))))
theorem C7 {h : Heap} {g : Nat} {t : TypeId} {fr : Nat × Nat} {a} (hg : h[g]? = some (.cells (Rdr.cells AJ a).toArray t fr)) (K : Value → Prop) : ldN 37 (.pointer (some ⟨g, 0, none⟩)) h K = K (.agg (Rdr.cells AJ a).toArray) := Fld.ldN (r := AJ) (s := AJ) Fld.self hg K
theorem BZ {h : Heap} {g : Nat} {t : TypeId} {fr : Nat × Nat} {a} (hg : h[g]? = some (.cells (Rdr.cells AJ a).toArray t fr)) (K : Value → Prop) : ld1 (.pointer (some ⟨g, 0, none⟩)) h K = K (.bool a.1) := Fld.ldB (r := AJ) (Fld.fst Fld.self) hg K
theorem BJ {h : Heap} {g : Nat} {t : TypeId} {fr : Nat × Nat} {a} (hg : h[g]? = some (.cells (Rdr.cells AJ a).toArray t fr)) (K : Value → Prop) : ldN 32 (.pointer (some ⟨g, 1, none⟩)) h K = K (.agg (Rdr.cells (rVec 32) a.2.1).toArray) := Fld.ldN (r := AJ) (s := (rVec 32)) (Fld.snd (Fld.fst Fld.self)) hg K
theorem Qf {w0 w : World} {As : List Asn} {g : Nat} {t : TypeId} {a} {b} {K : World → Prop} (hs : Sep w0 w (blk g (Rdr.cells AJ a).toArray t :: As)) (h1 : ∀ u ∈ Rdr.cells (rVec 32) b, u.oneCell' = true) (h : ∀ w', Sep w0 w' (blk g (Rdr.cells AJ (a.1, b, a.2.2.1, a.2.2.2.1, a.2.2.2.2.1, a.2.2.2.2.2)).toArray t :: As) → K w') : stN 32 (.pointer (some ⟨g, 1, none⟩)) (.agg (Rdr.cells (rVec 32) b).toArray) w K := Fld.stN (r := AJ) (s := (rVec 32)) (Fld.snd (Fld.fst Fld.self)) hs h1 h
theorem Bx {h : Heap} {g : Nat} {t : TypeId} {fr : Nat × Nat} {a} (hg : h[g]? = some (.cells (Rdr.cells AJ a).toArray t fr)) (K : Value → Prop) : ld1 (.pointer (some ⟨g, 33, none⟩)) h K = K (.int .i64 a.2.2.1) := Fld.ldI (r := AJ) (Fld.snd (Fld.snd (Fld.fst Fld.self))) hg K
theorem M7 {w0 w : World} {As : List Asn} {g : Nat} {t : TypeId} {a} {b} {K : World → Prop} (hs : Sep w0 w (blk g (Rdr.cells AJ a).toArray t :: As)) (h : ∀ w', Sep w0 w' (blk g (Rdr.cells AJ (a.1, a.2.1, b, a.2.2.2.1, a.2.2.2.2.1, a.2.2.2.2.2)).toArray t :: As) → K w') : st1 (.pointer (some ⟨g, 33, none⟩)) (.int .i64 b) w K := Fld.stV (r := AJ) (s := (rInt .i64)) (Fld.snd (Fld.snd (Fld.fst Fld.self))) rfl hs rfl h
theorem BQ {h : Heap} {g : Nat} {t : TypeId} {fr : Nat × Nat} {a} (hg : h[g]? = some (.cells (Rdr.cells AJ a).toArray t fr)) (K : Value → Prop) : ld1 (.pointer (some ⟨g, 34, none⟩)) h K = K (.int .i64 a.2.2.2.1) := Fld.ldI (r := AJ) (Fld.snd (Fld.snd (Fld.snd (Fld.fst Fld.self)))) hg K
theorem A0 {h : Heap} {g : Nat} {t : TypeId} {fr : Nat × Nat} {a} (hg : h[g]? = some (.cells (Rdr.cells AJ a).toArray t fr)) (K : Value → Prop) : ld1 (.pointer (some ⟨g, 35, none⟩)) h K = K (a.2.2.2.2.1) := Fld.ld1 (r := AJ) (Fld.snd (Fld.snd (Fld.snd (Fld.snd (Fld.fst Fld.self))))) hg K
theorem BC {h : Heap} {g : Nat} {t : TypeId} {fr : Nat × Nat} {a} (hg : h[g]? = some (.cells (Rdr.cells AJ a).toArray t fr)) (K : Value → Prop) : ld1 (.pointer (some ⟨g, 36, none⟩)) h K = K (a.2.2.2.2.2) := Fld.ld1 (r := AJ) (Fld.snd (Fld.snd (Fld.snd (Fld.snd (Fld.snd Fld.self))))) hg K
theorem H1 {w0 w : World} {As : List Asn} {g : Nat} {t : TypeId} {a} {b} {K : World → Prop} (hs : Sep w0 w (blk g (Rdr.cells AJ a).toArray t :: As)) (h1 : b.oneCell' = true) (h : ∀ w', Sep w0 w' (blk g (Rdr.cells AJ (a.1, a.2.1, a.2.2.1, a.2.2.2.1, a.2.2.2.2.1, b)).toArray t :: As) → K w') : st1 (.pointer (some ⟨g, 36, none⟩)) (b) w K := Fld.stV (r := AJ) (s := qv) (Fld.snd (Fld.snd (Fld.snd (Fld.snd (Fld.snd Fld.self))))) rfl hs h1 h
theorem Pi : ((fsOf P Bu).toList.mapM fun f : Field => (P.info? f.type).map fun i => (f.offset, i.size)) = some (#[(0, 1), (1, 32), (33, 1), (34, 1), (35, 1), (36, 1)] : Array (Nat × Nat)).toList := by kernel_rfl
theorem RW : ((P.info? Bu).bind fun it => it.zero.map fun z => z.cells) = some (Rdr.cells AJ (false, (vz 32), (0 : Int), (0 : Int), ((Value.map none)), ((Value.slice none 0 0)))).toArray := by kernel_rfl
abbrev AL := (Rdr.pair (rVec 32) (Rdr.pair (rInt .i64) (Rdr.pair (rInt .i64) qv)))
theorem Bl {h : Heap} {g : Nat} {t : TypeId} {fr : Nat × Nat} {a} (hg : h[g]? = some (.cells (Rdr.cells AL a).toArray t fr)) (K : Value → Prop) : ldN 35 (.pointer (some ⟨g, 0, none⟩)) h K = K (.agg (Rdr.cells AL a).toArray) := Fld.ldN (r := AL) (s := AL) Fld.self hg K
theorem AX {h : Heap} {g : Nat} {t : TypeId} {fr : Nat × Nat} {a} (hg : h[g]? = some (.cells (Rdr.cells AL a).toArray t fr)) (K : Value → Prop) : ldN 32 (.pointer (some ⟨g, 0, none⟩)) h K = K (.agg (Rdr.cells (rVec 32) a.1).toArray) := Fld.ldN (r := AL) (s := (rVec 32)) (Fld.fst Fld.self) hg K
theorem LK {w0 w : World} {As : List Asn} {g : Nat} {t : TypeId} {a} {b} {K : World → Prop} (hs : Sep w0 w (blk g (Rdr.cells AL a).toArray t :: As)) (h1 : ∀ u ∈ Rdr.cells (rVec 32) b, u.oneCell' = true) (h : ∀ w', Sep w0 w' (blk g (Rdr.cells AL (b, a.2.1, a.2.2.1, a.2.2.2)).toArray t :: As) → K w') : stN 32 (.pointer (some ⟨g, 0, none⟩)) (.agg (Rdr.cells (rVec 32) b).toArray) w K := Fld.stN (r := AL) (s := (rVec 32)) (Fld.fst Fld.self) hs h1 h
theorem A2 {h : Heap} {g : Nat} {t : TypeId} {fr : Nat × Nat} {a} (hg : h[g]? = some (.cells (Rdr.cells AL a).toArray t fr)) (K : Value → Prop) : ld1 (.pointer (some ⟨g, 32, none⟩)) h K = K (.int .i64 a.2.1) := Fld.ldI (r := AL) (Fld.snd (Fld.fst Fld.self)) hg K
theorem Mi {w0 w : World} {As : List Asn} {g : Nat} {t : TypeId} {a} {b} {K : World → Prop} (hs : Sep w0 w (blk g (Rdr.cells AL a).toArray t :: As)) (h : ∀ w', Sep w0 w' (blk g (Rdr.cells AL (a.1, b, a.2.2.1, a.2.2.2)).toArray t :: As) → K w') : st1 (.pointer (some ⟨g, 32, none⟩)) (.int .i64 b) w K := Fld.stV (r := AL) (s := (rInt .i64)) (Fld.snd (Fld.fst Fld.self)) rfl hs rfl h
theorem AW {h : Heap} {g : Nat} {t : TypeId} {fr : Nat × Nat} {a} (hg : h[g]? = some (.cells (Rdr.cells AL a).toArray t fr)) (K : Value → Prop) : ld1 (.pointer (some ⟨g, 33, none⟩)) h K = K (.int .i64 a.2.2.1) := Fld.ldI (r := AL) (Fld.snd (Fld.snd (Fld.fst Fld.self))) hg K
theorem AR {h : Heap} {g : Nat} {t : TypeId} {fr : Nat × Nat} {a} (hg : h[g]? = some (.cells (Rdr.cells AL a).toArray t fr)) (K : Value → Prop) : ld1 (.pointer (some ⟨g, 34, none⟩)) h K = K (a.2.2.2) := Fld.ld1 (r := AL) (Fld.snd (Fld.snd (Fld.snd Fld.self))) hg K
theorem EI {w0 w : World} {As : List Asn} {g : Nat} {t : TypeId} {a} {b} {K : World → Prop} (hs : Sep w0 w (blk g (Rdr.cells AL a).toArray t :: As)) (h1 : b.oneCell' = true) (h : ∀ w', Sep w0 w' (blk g (Rdr.cells AL (a.1, a.2.1, a.2.2.1, b)).toArray t :: As) → K w') : st1 (.pointer (some ⟨g, 34, none⟩)) (b) w K := Fld.stV (r := AL) (s := qv) (Fld.snd (Fld.snd (Fld.snd Fld.self))) rfl hs h1 h
theorem Od : ((fsOf P BK).toList.mapM fun f : Field => (P.info? f.type).map fun i => (f.offset, i.size)) = some (#[(0, 32), (32, 1), (33, 1), (34, 1)] : Array (Nat × Nat)).toList := by kernel_rfl
theorem OC : ((P.info? BK).bind fun it => it.zero.map fun z => z.cells) = some (Rdr.cells AL ((vz 32), (0 : Int), (0 : Int), ((Value.slice none 0 0)))).toArray := by kernel_rfl
abbrev AV := (Rdr.pair AI (Rdr.pair qv qv))
theorem EP {h : Heap} {g : Nat} {t : TypeId} {fr : Nat × Nat} {a} (hg : h[g]? = some (.cells (Rdr.cells AV a).toArray t fr)) (K : Value → Prop) : ldN 4 (.pointer (some ⟨g, 0, none⟩)) h K = K (.agg (Rdr.cells AI a.1).toArray) := Fld.ldN (r := AV) (s := AI) (Fld.fst Fld.self) hg K
theorem La {h : Heap} {g : Nat} {t : TypeId} {fr : Nat × Nat} {a} (hg : h[g]? = some (.cells (Rdr.cells AV a).toArray t fr)) (K : Value → Prop) : ld1 (.pointer (some ⟨g, 0, none⟩)) h K = K (.int .i64 a.1.1) := Fld.ldI (r := AV) (Fld.fst (Fld.fst Fld.self)) hg K
theorem Hv {h : Heap} {g : Nat} {t : TypeId} {fr : Nat × Nat} {a} (hg : h[g]? = some (.cells (Rdr.cells AV a).toArray t fr)) (K : Value → Prop) : ld1 (.pointer (some ⟨g, 1, none⟩)) h K = K (.int .i64 a.1.2.1) := Fld.ldI (r := AV) (Fld.fst (Fld.snd (Fld.fst Fld.self))) hg K
theorem Hu {h : Heap} {g : Nat} {t : TypeId} {fr : Nat × Nat} {a} (hg : h[g]? = some (.cells (Rdr.cells AV a).toArray t fr)) (K : Value → Prop) : ld1 (.pointer (some ⟨g, 4, none⟩)) h K = K (a.2.1) := Fld.ld1 (r := AV) (Fld.snd (Fld.fst Fld.self)) hg K
theorem DO {h : Heap} {g : Nat} {t : TypeId} {fr : Nat × Nat} {a} (hg : h[g]? = some (.cells (Rdr.cells AV a).toArray t fr)) (K : Value → Prop) : ld1 (.pointer (some ⟨g, 5, none⟩)) h K = K (a.2.2) := Fld.ld1 (r := AV) (Fld.snd (Fld.snd Fld.self)) hg K
theorem GO {w0 w : World} {As : List Asn} {g : Nat} {t : TypeId} {a} {b} {K : World → Prop} (hs : Sep w0 w (blk g (Rdr.cells AV a).toArray t :: As)) (h1 : b.oneCell' = true) (h : ∀ w', Sep w0 w' (blk g (Rdr.cells AV (a.1, a.2.1, b)).toArray t :: As) → K w') : st1 (.pointer (some ⟨g, 5, none⟩)) (b) w K := Fld.stV (r := AV) (s := qv) (Fld.snd (Fld.snd Fld.self)) rfl hs h1 h
theorem Ow : ((fsOf P BL).toList.mapM fun f : Field => (P.info? f.type).map fun i => (f.offset, i.size)) = some (#[(0, 4), (4, 1), (5, 1)] : Array (Nat × Nat)).toList := by kernel_rfl
theorem PV : ((P.info? BL).bind fun it => it.zero.map fun z => z.cells) = some (Rdr.cells AV (((0 : Int), (0 : Int), (0 : Int), (0 : Int)), ((Value.pointer none)), ((Value.slice none 0 0)))).toArray := by kernel_rfl
abbrev Ao := (Rdr.pair (rVec 32) Ap)
theorem Pd {h : Heap} {g : Nat} {t : TypeId} {fr : Nat × Nat} {a} (hg : h[g]? = some (.cells (Rdr.cells Ao a).toArray t fr)) (K : Value → Prop) : ldN 99 (.pointer (some ⟨g, 0, none⟩)) h K = K (.agg (Rdr.cells Ao a).toArray) := Fld.ldN (r := Ao) (s := Ao) Fld.self hg K
theorem Oo {w0 w : World} {As : List Asn} {g : Nat} {t : TypeId} {a} {b} {K : World → Prop} (hs : Sep w0 w (blk g (Rdr.cells Ao a).toArray t :: As)) (h1 : ∀ u ∈ Rdr.cells Ao b, u.oneCell' = true) (h : ∀ w', Sep w0 w' (blk g (Rdr.cells Ao b).toArray t :: As) → K w') : stN 99 (.pointer (some ⟨g, 0, none⟩)) (.agg (Rdr.cells Ao b).toArray) w K := Fld.stN (r := Ao) (s := Ao) Fld.self hs h1 h
theorem LP {h : Heap} {g : Nat} {t : TypeId} {fr : Nat × Nat} {a} (hg : h[g]? = some (.cells (Rdr.cells Ao a).toArray t fr)) (K : Value → Prop) : ldN 32 (.pointer (some ⟨g, 0, none⟩)) h K = K (.agg (Rdr.cells (rVec 32) a.1).toArray) := Fld.ldN (r := Ao) (s := (rVec 32)) (Fld.fst Fld.self) hg K
theorem Lc {h : Heap} {g o : Nat} {a} (hg : At h g o (Rdr.cells Ao a)) (K : Value → Prop) : ldN 32 (.pointer (some ⟨g, o, none⟩)) h K = K (.agg (Rdr.cells (rVec 32) a.1).toArray) := Fld.ldNA (r := Ao) (s := (rVec 32)) (Fld.fst Fld.self) hg K
theorem Mn {h : Heap} {g : Nat} {t : TypeId} {fr : Nat × Nat} {a} (hg : h[g]? = some (.cells (Rdr.cells Ao a).toArray t fr)) (K : Value → Prop) : ldN 67 (.pointer (some ⟨g, 32, none⟩)) h K = K (.agg (Rdr.cells Ap a.2).toArray) := Fld.ldN (r := Ao) (s := Ap) (Fld.snd Fld.self) hg K
theorem GS {h : Heap} {g o : Nat} {a} (hg : At h g o (Rdr.cells Ao a)) (K : Value → Prop) : ldN 67 (.pointer (some ⟨g, o + 32, none⟩)) h K = K (.agg (Rdr.cells Ap a.2).toArray) := Fld.ldNA (r := Ao) (s := Ap) (Fld.snd Fld.self) hg K
theorem LD {w0 w : World} {As : List Asn} {g : Nat} {t : TypeId} {a} {b} {K : World → Prop} (hs : Sep w0 w (blk g (Rdr.cells Ao a).toArray t :: As)) (h1 : ∀ u ∈ Rdr.cells Ap b, u.oneCell' = true) (h : ∀ w', Sep w0 w' (blk g (Rdr.cells Ao (a.1, b)).toArray t :: As) → K w') : stN 67 (.pointer (some ⟨g, 32, none⟩)) (.agg (Rdr.cells Ap b).toArray) w K := Fld.stN (r := Ao) (s := Ap) (Fld.snd Fld.self) hs h1 h
theorem I6 {h : Heap} {g o : Nat} {a} (hg : At h g o (Rdr.cells Ao a)) (K : Value → Prop) : ld1 (.pointer (some ⟨g, o + 32, none⟩)) h K = K (a.2.1) := Fld.ld1A (r := Ao) (Fld.snd (Fld.fst Fld.self)) hg K
theorem EZ {h : Heap} {g o : Nat} {a} (hg : At h g o (Rdr.cells Ao a)) (K : Value → Prop) : ld1 (.pointer (some ⟨g, o + 98, none⟩)) h K = K (.bool a.2.2.2.2.2) := Fld.ldB' (r := Ao) (Fld.snd (Fld.snd (Fld.snd (Fld.snd (Fld.snd Fld.self))))) hg K
theorem Na {a} (h0 : (a.2.1).oneCell' = true) : ∀ u ∈ Rdr.cells Ao a, u.oneCell' = true := (BO BW (BO (oneV h0) (BO BW (BO BW (BO oneI oneB)))))
theorem OO (w : World) : (Instr.alloc BB true (.tuple #[])).run P w = .ok (.pointer (some ⟨w.heap.size, 0, none⟩)) (w.alloc (.cells (Rdr.cells Ao ((vz 32), (((Value.slice none 0 0)), (vz 32), (vz 32), (0 : Int), false))).toArray BB)) := by kernel_rfl
theorem N6 : ((fsOf P BB).toList.mapM fun f : Field => (P.info? f.type).map fun i => (f.offset, i.size)) = some (#[(0, 32), (32, 67)] : Array (Nat × Nat)).toList := by kernel_rfl
theorem Pg : ((P.info? BB).bind fun it => it.zero.map fun z => z.cells) = some (Rdr.cells Ao ((vz 32), (((Value.slice none 0 0)), (vz 32), (vz 32), (0 : Int), false))).toArray := by kernel_rfl
abbrev AF := (Rdr.pair (rVec 32) Au)
theorem Of {h : Heap} {g o : Nat} {a} (hg : At h g o (Rdr.cells AF a)) (K : Value → Prop) : ldN 66 (.pointer (some ⟨g, o, none⟩)) h K = K (.agg (Rdr.cells AF a).toArray) := Fld.ldNA (r := AF) (s := AF) Fld.self hg K
theorem CJ {h : Heap} {g o : Nat} {a} (hg : At h g o (Rdr.cells AF a)) (K : Value → Prop) : ldN 32 (.pointer (some ⟨g, o, none⟩)) h K = K (.agg (Rdr.cells (rVec 32) a.1).toArray) := Fld.ldNA (r := AF) (s := (rVec 32)) (Fld.fst Fld.self) hg K
theorem L8 {h : Heap} {g o : Nat} {a} (hg : At h g o (Rdr.cells AF a)) (K : Value → Prop) : ldN 34 (.pointer (some ⟨g, o + 32, none⟩)) h K = K (.agg (Rdr.cells Au a.2).toArray) := Fld.ldNA (r := AF) (s := Au) (Fld.snd Fld.self) hg K
theorem Dt {h : Heap} {g o : Nat} {a} (hg : At h g o (Rdr.cells AF a)) (K : Value → Prop) : ldN 32 (.pointer (some ⟨g, o + 32, none⟩)) h K = K (.agg (Rdr.cells (rVec 32) a.2.1).toArray) := Fld.ldNA (r := AF) (s := (rVec 32)) (Fld.snd (Fld.fst Fld.self)) hg K
theorem EK {h : Heap} {g o : Nat} {a} (hg : At h g o (Rdr.cells AF a)) (K : Value → Prop) : ld1 (.pointer (some ⟨g, o + 64, none⟩)) h K = K (.int .i64 a.2.2.1) := Fld.ldI' (r := AF) (Fld.snd (Fld.snd (Fld.fst Fld.self))) hg K
theorem NZ : ((fsOf P Ci).toList.mapM fun f : Field => (P.info? f.type).map fun i => (f.offset, i.size)) = some (#[(0, 32), (32, 34)] : Array (Nat × Nat)).toList := by kernel_rfl
theorem PU : ((P.info? Ci).bind fun it => it.zero.map fun z => z.cells) = some (Rdr.cells AF ((vz 32), ((vz 32), (0 : Int), ((Value.slice none 0 0))))).toArray := by kernel_rfl
abbrev Ab := (Rdr.pair (rVec 32) (rInt .i64))
theorem Gb {h : Heap} {g : Nat} {t : TypeId} {fr : Nat × Nat} {a} (hg : h[g]? = some (.cells (Rdr.cells Ab a).toArray t fr)) (K : Value → Prop) : ldN 33 (.pointer (some ⟨g, 0, none⟩)) h K = K (.agg (Rdr.cells Ab a).toArray) := Fld.ldN (r := Ab) (s := Ab) Fld.self hg K
theorem NF {w0 w : World} {As : List Asn} {g : Nat} {t : TypeId} {a} {b} {K : World → Prop} (hs : Sep w0 w (blk g (Rdr.cells Ab a).toArray t :: As)) (h1 : ∀ u ∈ Rdr.cells Ab b, u.oneCell' = true) (h : ∀ w', Sep w0 w' (blk g (Rdr.cells Ab b).toArray t :: As) → K w') : stN 33 (.pointer (some ⟨g, 0, none⟩)) (.agg (Rdr.cells Ab b).toArray) w K := Fld.stN (r := Ab) (s := Ab) Fld.self hs h1 h
theorem D8 {h : Heap} {g : Nat} {t : TypeId} {fr : Nat × Nat} {a} (hg : h[g]? = some (.cells (Rdr.cells Ab a).toArray t fr)) (K : Value → Prop) : ldN 32 (.pointer (some ⟨g, 0, none⟩)) h K = K (.agg (Rdr.cells (rVec 32) a.1).toArray) := Fld.ldN (r := Ab) (s := (rVec 32)) (Fld.fst Fld.self) hg K
theorem QZ {h : Heap} {g o : Nat} {a} (hg : At h g o (Rdr.cells Ab a)) (K : Value → Prop) : ldN 32 (.pointer (some ⟨g, o, none⟩)) h K = K (.agg (Rdr.cells (rVec 32) a.1).toArray) := Fld.ldNA (r := Ab) (s := (rVec 32)) (Fld.fst Fld.self) hg K
theorem CQ {h : Heap} {g : Nat} {t : TypeId} {fr : Nat × Nat} {a} (hg : h[g]? = some (.cells (Rdr.cells Ab a).toArray t fr)) (K : Value → Prop) : ld1 (.pointer (some ⟨g, 32, none⟩)) h K = K (.int .i64 a.2) := Fld.ldI (r := Ab) (Fld.snd Fld.self) hg K
theorem CI {h : Heap} {g o : Nat} {a} (hg : At h g o (Rdr.cells Ab a)) (K : Value → Prop) : ld1 (.pointer (some ⟨g, o + 32, none⟩)) h K = K (.int .i64 a.2) := Fld.ldI' (r := Ab) (Fld.snd Fld.self) hg K
theorem Ik {a}  : ∀ u ∈ Rdr.cells Ab a, u.oneCell' = true := (BO BW oneI)
theorem Pe (w : World) : (Instr.alloc Bv true (.tuple #[])).run P w = .ok (.pointer (some ⟨w.heap.size, 0, none⟩)) (w.alloc (.cells (Rdr.cells Ab ((vz 32), (0 : Int))).toArray Bv)) := by kernel_rfl
theorem WV : ((fsOf P Bv).toList.mapM fun f : Field => (P.info? f.type).map fun i => (f.offset, i.size)) = some (#[(0, 32), (32, 1)] : Array (Nat × Nat)).toList := by kernel_rfl
theorem YJ : ((P.info? Bv).bind fun it => it.zero.map fun z => z.cells) = some (Rdr.cells Ab ((vz 32), (0 : Int))).toArray := by kernel_rfl
abbrev LJ := (Rdr.pair rBool (Rdr.pair qv (rInt .i64)))
abbrev Bb := (Rdr.pair LJ (rInt .i64))
theorem En {h : Heap} {g : Nat} {t : TypeId} {fr : Nat × Nat} {a} (hg : h[g]? = some (.cells (Rdr.cells Bb a).toArray t fr)) (K : Value → Prop) : ldN 4 (.pointer (some ⟨g, 0, none⟩)) h K = K (.agg (Rdr.cells Bb a).toArray) := Fld.ldN (r := Bb) (s := Bb) Fld.self hg K
theorem CO {h : Heap} {g : Nat} {t : TypeId} {fr : Nat × Nat} {a} (hg : h[g]? = some (.cells (Rdr.cells Bb a).toArray t fr)) (K : Value → Prop) : ldN 3 (.pointer (some ⟨g, 0, none⟩)) h K = K (.agg (Rdr.cells LJ a.1).toArray) := Fld.ldN (r := Bb) (s := LJ) (Fld.fst Fld.self) hg K
theorem Cb {h : Heap} {g : Nat} {t : TypeId} {fr : Nat × Nat} {a} (hg : h[g]? = some (.cells (Rdr.cells Bb a).toArray t fr)) (K : Value → Prop) : ld1 (.pointer (some ⟨g, 0, none⟩)) h K = K (.bool a.1.1) := Fld.ldB (r := Bb) (Fld.fst (Fld.fst Fld.self)) hg K
theorem JP {w0 w : World} {As : List Asn} {g : Nat} {t : TypeId} {a} {b} {K : World → Prop} (hs : Sep w0 w (blk g (Rdr.cells Bb a).toArray t :: As)) (h : ∀ w', Sep w0 w' (blk g (Rdr.cells Bb ((b, a.1.2.1, a.1.2.2), a.2)).toArray t :: As) → K w') : st1 (.pointer (some ⟨g, 0, none⟩)) (.bool b) w K := Fld.stV (r := Bb) (s := rBool) (Fld.fst (Fld.fst Fld.self)) rfl hs rfl h
theorem Cv {h : Heap} {g : Nat} {t : TypeId} {fr : Nat × Nat} {a} (hg : h[g]? = some (.cells (Rdr.cells Bb a).toArray t fr)) (K : Value → Prop) : ld1 (.pointer (some ⟨g, 1, none⟩)) h K = K (a.1.2.1) := Fld.ld1 (r := Bb) (Fld.fst (Fld.snd (Fld.fst Fld.self))) hg K
theorem LF {w0 w : World} {As : List Asn} {g : Nat} {t : TypeId} {a} {b} {K : World → Prop} (hs : Sep w0 w (blk g (Rdr.cells Bb a).toArray t :: As)) (h1 : b.oneCell' = true) (h : ∀ w', Sep w0 w' (blk g (Rdr.cells Bb ((a.1.1, b, a.1.2.2), a.2)).toArray t :: As) → K w') : st1 (.pointer (some ⟨g, 1, none⟩)) (b) w K := Fld.stV (r := Bb) (s := qv) (Fld.fst (Fld.snd (Fld.fst Fld.self))) rfl hs h1 h
theorem Ck {h : Heap} {g : Nat} {t : TypeId} {fr : Nat × Nat} {a} (hg : h[g]? = some (.cells (Rdr.cells Bb a).toArray t fr)) (K : Value → Prop) : ld1 (.pointer (some ⟨g, 2, none⟩)) h K = K (.int .i64 a.1.2.2) := Fld.ldI (r := Bb) (Fld.fst (Fld.snd (Fld.snd Fld.self))) hg K
theorem CF {h : Heap} {g : Nat} {t : TypeId} {fr : Nat × Nat} {a} (hg : h[g]? = some (.cells (Rdr.cells Bb a).toArray t fr)) (K : Value → Prop) : ld1 (.pointer (some ⟨g, 3, none⟩)) h K = K (.int .i64 a.2) := Fld.ldI (r := Bb) (Fld.snd Fld.self) hg K
theorem VU : ((fsOf P Do).toList.mapM fun f : Field => (P.info? f.type).map fun i => (f.offset, i.size)) = some (#[(0, 3), (3, 1)] : Array (Nat × Nat)).toList := by kernel_rfl
theorem WU : ((P.info? Do).bind fun it => it.zero.map fun z => z.cells) = some (Rdr.cells Bb ((false, ((Value.slice none 0 0)), (0 : Int)), (0 : Int))).toArray := by kernel_rfl
theorem AP (w : World) : (Instr.alloc Aa true (.tuple #[])).run P w = .ok (.pointer (some ⟨w.heap.size, 0, none⟩)) (w.alloc (.cells (Rdr.cells (rVec 32) (vz 32)).toArray Aa)) := by kernel_rfl
theorem Ah {h : Heap} {g : Nat} {t : TypeId} {fr : Nat × Nat} {a} (hg : h[g]? = some (.cells (Rdr.cells (rVec 32) a).toArray t fr)) (K : Value → Prop) : ldN 32 (.pointer (some ⟨g, 0, none⟩)) h K = K (.agg (Rdr.cells (rVec 32) a).toArray) := Fld.ldN (r := rVec 32) (s := rVec 32) Fld.self hg K
theorem AB {w0 w : World} {As : List Asn} {g : Nat} {t : TypeId} {a} {b} {K : World → Prop} (hs : Sep w0 w (blk g (Rdr.cells (rVec 32) a).toArray t :: As)) (h : ∀ w', Sep w0 w' (blk g (Rdr.cells (rVec 32) b).toArray t :: As) → K w') : stN 32 (.pointer (some ⟨g, 0, none⟩)) (.agg (Rdr.cells (rVec 32) b).toArray) w K := Fld.stN (r := rVec 32) (s := rVec 32) Fld.self hs BW h
theorem IW : EqT P Aa (rVec 32) true 2 := AfE St Ho (by kernel_rfl) (by kernel_rfl)
theorem BP {x y : Operand} {w : World} {a b : Vec 32} (K : Value → Prop) : rdP P (eqS .eql Aa x y (.agg (Rdr.cells (rVec 32) a).toArray) (.agg (Rdr.cells (rVec 32) b).toArray)) w K = K (.bool (decide (a = b))) := AfQ IW (by decide) (by kernel_rfl) K
theorem CB {x y : Operand} {w : World} {a b : Vec 32} (K : Value → Prop) : rdP P (eqS .neq Aa x y (.agg (Rdr.cells (rVec 32) a).toArray) (.agg (Rdr.cells (rVec 32) b).toArray)) w K = K (.bool (!decide (a = b))) := VX IW (by decide) (by kernel_rfl) K
theorem Aah : EqT P BA Ar true 3 := Uw (l := [(Aa, 0), (T_int, 32)]) (by kernel_rfl) (by kernel_rfl) (by kernel_rfl) (by kernel_rfl) (X6 IW (YZ (Aeg (Abl U_int (by kernel_rfl)) (by decide))))
theorem Aa6 {x y : Operand} {w : World} {a b} (K : Value → Prop) : rdP P (eqS .neq BA x y (.agg (Rdr.cells Ar a).toArray) (.agg (Rdr.cells Ar b).toArray)) w K = K (.bool (!decide (a = b))) := VX Aah (by decide) (by kernel_rfl) K
theorem W4 : EqT P Bv Ab true 3 := Uw (l := [(Aa, 0), (T_int, 32)]) (by kernel_rfl) (by kernel_rfl) (by kernel_rfl) (by kernel_rfl) (X6 IW (YZ (Aeg (Abl U_int (by kernel_rfl)) (by decide))))
theorem WT {x y : Operand} {w : World} {a b} (K : Value → Prop) : rdP P (eqS .neq Bv x y (.agg (Rdr.cells Ab a).toArray) (.agg (Rdr.cells Ab b).toArray)) w K = K (.bool (!decide (a = b))) := VX W4 (by decide) (by kernel_rfl) K
theorem MU {b0 : Int} {b1 : Int} {b2 : Int} {b3 : Int} {w : World}  (K : Value → Prop) : rdP P (Instr.build AU #[(0, .int .i64 b0), (1, .int .i64 b1), (2, .int .i64 b2), (3, .int .i64 b3)]) w K = K (.agg (Rdr.cells AI (b0, b1, b2, b3)).toArray) := by
  refine Ca ?_ K
  refine (BF Za OH WK).trans ?_
  refine Eq.trans (AY (r := AI) (s := (rInt .i64)) (Fld.fst Fld.self) (a := ((0 : Int), (0 : Int), (0 : Int), (0 : Int))) rfl rfl) ?_
  refine Eq.trans (AY (r := AI) (s := (rInt .i64)) (Fld.snd (Fld.fst Fld.self)) (a := (b0, (0 : Int), (0 : Int), (0 : Int))) rfl rfl) ?_
  refine Eq.trans (AY (r := AI) (s := (rInt .i64)) (Fld.snd (Fld.snd (Fld.fst Fld.self))) (a := (b0, b1, (0 : Int), (0 : Int))) rfl rfl) ?_
  refine Eq.trans (AY (r := AI) (s := (rInt .i64)) (Fld.snd (Fld.snd (Fld.snd Fld.self))) (a := (b0, b1, b2, (0 : Int))) rfl rfl) ?_
  rfl
theorem GQ  {w : World}  (K : Value → Prop) : rdP P (Instr.build Al #[]) w K = K (.agg (Rdr.cells Au ((vz 32), (0 : Int), ((Value.slice none 0 0)))).toArray) := by
  refine Ca ?_ K
  refine (BF LE LW KI).trans ?_
  rfl
theorem Jr {b0} {b1 : Int} {b2 : Value} {w : World} (h2 : b2.oneCell' = true) (K : Value → Prop) : rdP P (Instr.build Al #[(0, .agg (Rdr.cells (rVec 32) b0).toArray), (1, .int .i64 b1), (2, b2)]) w K = K (.agg (Rdr.cells Au (b0, b1, b2)).toArray) := by
  refine Ca ?_ K
  refine (BF LE LW KI).trans ?_
  refine Eq.trans (AY (r := Au) (s := (rVec 32)) (Fld.fst Fld.self) (a := ((vz 32), (0 : Int), ((Value.slice none 0 0)))) rfl rfl) ?_
  refine Eq.trans (AY (r := Au) (s := (rInt .i64)) (Fld.snd (Fld.fst Fld.self)) (a := (b0, (0 : Int), ((Value.slice none 0 0)))) rfl rfl) ?_
  refine Eq.trans (AY (r := Au) (s := qv) (Fld.snd (Fld.snd Fld.self)) (a := (b0, b1, ((Value.slice none 0 0)))) rfl (C3 h2)) ?_
  rfl
theorem Xj {b2 : Value} {w : World} (h2 : b2.oneCell' = true) (K : Value → Prop) : rdP P (Instr.build Al #[(2, b2)]) w K = K (.agg (Rdr.cells Au ((vz 32), (0 : Int), b2)).toArray) := by
  refine Ca ?_ K
  refine (BF LE LW KI).trans ?_
  refine Eq.trans (AY (r := Au) (s := qv) (Fld.snd (Fld.snd Fld.self)) (a := ((vz 32), (0 : Int), ((Value.slice none 0 0)))) rfl (C3 h2)) ?_
  rfl
theorem K6 {b0 : Value} {b1 : Value} {w : World} (h0 : b0.oneCell' = true) (h1 : b1.oneCell' = true) (K : Value → Prop) : rdP P (Instr.build CM #[(0, b0), (1, b1)]) w K = K (.agg (Rdr.cells B7 (b0, b1)).toArray) := by
  refine Ca ?_ K
  refine (BF Om NU Nn).trans ?_
  refine Eq.trans (AY (r := B7) (s := qv) (Fld.fst Fld.self) (a := (((Value.slice none 0 0)), ((Value.slice none 0 0)))) rfl (C3 h0)) ?_
  refine Eq.trans (AY (r := B7) (s := qv) (Fld.snd Fld.self) (a := (b0, ((Value.slice none 0 0)))) rfl (C3 h1)) ?_
  rfl
theorem BX  {w : World}  (K : Value → Prop) : rdP P (Instr.build Aj #[]) w K = K (.agg (Rdr.cells Ap (((Value.slice none 0 0)), (vz 32), (vz 32), (0 : Int), false)).toArray) := by
  refine Ca ?_ K
  refine (BF UK TZ Ry).trans ?_
  rfl
theorem K2 {b0 : Value} {b1} {b2} {w : World} (h0 : b0.oneCell' = true) (K : Value → Prop) : rdP P (Instr.build Aj #[(0, b0), (1, .agg (Rdr.cells (rVec 32) b1).toArray), (2, .agg (Rdr.cells (rVec 32) b2).toArray)]) w K = K (.agg (Rdr.cells Ap (b0, b1, b2, (0 : Int), false)).toArray) := by
  refine Ca ?_ K
  refine (BF UK TZ Ry).trans ?_
  refine Eq.trans (AY (r := Ap) (s := qv) (Fld.fst Fld.self) (a := (((Value.slice none 0 0)), (vz 32), (vz 32), (0 : Int), false)) rfl (C3 h0)) ?_
  refine Eq.trans (AY (r := Ap) (s := (rVec 32)) (Fld.snd (Fld.fst Fld.self)) (a := (b0, (vz 32), (vz 32), (0 : Int), false)) rfl rfl) ?_
  refine Eq.trans (AY (r := Ap) (s := (rVec 32)) (Fld.snd (Fld.snd (Fld.fst Fld.self))) (a := (b0, b1, (vz 32), (0 : Int), false)) rfl rfl) ?_
  rfl
theorem Kt {b0 : Value} {b1 : Value} {b2} {w : World} (h0 : b0.oneCell' = true) (h1 : b1.oneCell' = true) (K : Value → Prop) : rdP P (Instr.build A1 #[(0, b0), (1, b1), (2, .agg (Rdr.cells B7 b2).toArray)]) w K = K (.agg (Rdr.cells AS (b0, b1, b2)).toArray) := by
  refine Ca ?_ K
  refine (BF PP PR NT).trans ?_
  refine Eq.trans (AY (r := AS) (s := qv) (Fld.fst Fld.self) (a := (((Value.pointer none)), ((Value.pointer none)), (((Value.slice none 0 0)), ((Value.slice none 0 0))))) rfl (C3 h0)) ?_
  refine Eq.trans (AY (r := AS) (s := qv) (Fld.snd (Fld.fst Fld.self)) (a := (b0, ((Value.pointer none)), (((Value.slice none 0 0)), ((Value.slice none 0 0))))) rfl (C3 h1)) ?_
  refine Eq.trans (AY (r := AS) (s := B7) (Fld.snd (Fld.snd Fld.self)) (a := (b0, b1, (((Value.slice none 0 0)), ((Value.slice none 0 0))))) rfl rfl) ?_
  rfl
theorem Gv {b0} {b1 : Int} {w : World}  (K : Value → Prop) : rdP P (Instr.build BA #[(0, .agg (Rdr.cells (rVec 32) b0).toArray), (1, .int .i64 b1)]) w K = K (.agg (Rdr.cells Ar (b0, b1)).toArray) := by
  refine Ca ?_ K
  refine (BF Ab5 AbY Aa3).trans ?_
  refine Eq.trans (AY (r := Ar) (s := (rVec 32)) (Fld.fst Fld.self) (a := ((vz 32), (0 : Int))) rfl rfl) ?_
  refine Eq.trans (AY (r := Ar) (s := (rInt .i64)) (Fld.snd Fld.self) (a := (b0, (0 : Int))) rfl rfl) ?_
  rfl
theorem Q8 {b0 : Value} {b1} {b2 : Value} {w : World} (h0 : b0.oneCell' = true) (h2 : b2.oneCell' = true) (K : Value → Prop) : rdP P (Instr.build Bo #[(0, b0), (1, .agg (Rdr.cells AI b1).toArray), (2, b2)]) w K = K (.agg (Rdr.cells AN (b0, b1, b2)).toArray) := by
  refine Ca ?_ K
  refine (BF Aai Aao XP).trans ?_
  refine Eq.trans (AY (r := AN) (s := qv) (Fld.fst Fld.self) (a := (((Value.pointer none)), ((0 : Int), (0 : Int), (0 : Int), (0 : Int)), ((Value.map none)))) rfl (C3 h0)) ?_
  refine Eq.trans (AY (r := AN) (s := AI) (Fld.snd (Fld.fst Fld.self)) (a := (b0, ((0 : Int), (0 : Int), (0 : Int), (0 : Int)), ((Value.map none)))) rfl rfl) ?_
  refine Eq.trans (AY (r := AN) (s := qv) (Fld.snd (Fld.snd Fld.self)) (a := (b0, b1, ((Value.map none)))) rfl (C3 h2)) ?_
  rfl
theorem MN {b0 : Bool} {b1} {b2 : Int} {b3 : Int} {b4 : Value} {w : World} (h4 : b4.oneCell' = true) (K : Value → Prop) : rdP P (Instr.build Bu #[(0, .bool b0), (1, .agg (Rdr.cells (rVec 32) b1).toArray), (2, .int .i64 b2), (3, .int .i64 b3), (4, b4)]) w K = K (.agg (Rdr.cells AJ (b0, b1, b2, b3, b4, ((Value.slice none 0 0)))).toArray) := by
  refine Ca ?_ K
  refine (BF RW R2 Pi).trans ?_
  refine Eq.trans (AY (r := AJ) (s := rBool) (Fld.fst Fld.self) (a := (false, (vz 32), (0 : Int), (0 : Int), ((Value.map none)), ((Value.slice none 0 0)))) rfl rfl) ?_
  refine Eq.trans (AY (r := AJ) (s := (rVec 32)) (Fld.snd (Fld.fst Fld.self)) (a := (b0, (vz 32), (0 : Int), (0 : Int), ((Value.map none)), ((Value.slice none 0 0)))) rfl rfl) ?_
  refine Eq.trans (AY (r := AJ) (s := (rInt .i64)) (Fld.snd (Fld.snd (Fld.fst Fld.self))) (a := (b0, b1, (0 : Int), (0 : Int), ((Value.map none)), ((Value.slice none 0 0)))) rfl rfl) ?_
  refine Eq.trans (AY (r := AJ) (s := (rInt .i64)) (Fld.snd (Fld.snd (Fld.snd (Fld.fst Fld.self)))) (a := (b0, b1, b2, (0 : Int), ((Value.map none)), ((Value.slice none 0 0)))) rfl rfl) ?_
  refine Eq.trans (AY (r := AJ) (s := qv) (Fld.snd (Fld.snd (Fld.snd (Fld.snd (Fld.fst Fld.self))))) (a := (b0, b1, b2, b3, ((Value.map none)), ((Value.slice none 0 0)))) rfl (C3 h4)) ?_
  rfl
theorem Gy {b0 : Bool} {b1} {b2 : Int} {b3 : Int} {b4 : Value} {b5 : Value} {w : World} (h4 : b4.oneCell' = true) (h5 : b5.oneCell' = true) (K : Value → Prop) : rdP P (Instr.build Bu #[(0, .bool b0), (1, .agg (Rdr.cells (rVec 32) b1).toArray), (2, .int .i64 b2), (3, .int .i64 b3), (4, b4), (5, b5)]) w K = K (.agg (Rdr.cells AJ (b0, b1, b2, b3, b4, b5)).toArray) := by
  refine Ca ?_ K
  refine (BF RW R2 Pi).trans ?_
  refine Eq.trans (AY (r := AJ) (s := rBool) (Fld.fst Fld.self) (a := (false, (vz 32), (0 : Int), (0 : Int), ((Value.map none)), ((Value.slice none 0 0)))) rfl rfl) ?_
  refine Eq.trans (AY (r := AJ) (s := (rVec 32)) (Fld.snd (Fld.fst Fld.self)) (a := (b0, (vz 32), (0 : Int), (0 : Int), ((Value.map none)), ((Value.slice none 0 0)))) rfl rfl) ?_
  refine Eq.trans (AY (r := AJ) (s := (rInt .i64)) (Fld.snd (Fld.snd (Fld.fst Fld.self))) (a := (b0, b1, (0 : Int), (0 : Int), ((Value.map none)), ((Value.slice none 0 0)))) rfl rfl) ?_
  refine Eq.trans (AY (r := AJ) (s := (rInt .i64)) (Fld.snd (Fld.snd (Fld.snd (Fld.fst Fld.self)))) (a := (b0, b1, b2, (0 : Int), ((Value.map none)), ((Value.slice none 0 0)))) rfl rfl) ?_
  refine Eq.trans (AY (r := AJ) (s := qv) (Fld.snd (Fld.snd (Fld.snd (Fld.snd (Fld.fst Fld.self))))) (a := (b0, b1, b2, b3, ((Value.map none)), ((Value.slice none 0 0)))) rfl (C3 h4)) ?_
  refine Eq.trans (AY (r := AJ) (s := qv) (Fld.snd (Fld.snd (Fld.snd (Fld.snd (Fld.snd Fld.self))))) (a := (b0, b1, b2, b3, b4, ((Value.slice none 0 0)))) rfl (C3 h5)) ?_
  rfl
theorem Gn {b0} {b1 : Int} {b2 : Int} {w : World}  (K : Value → Prop) : rdP P (Instr.build BK #[(0, .agg (Rdr.cells (rVec 32) b0).toArray), (1, .int .i64 b1), (2, .int .i64 b2)]) w K = K (.agg (Rdr.cells AL (b0, b1, b2, ((Value.slice none 0 0)))).toArray) := by
  refine Ca ?_ K
  refine (BF OC Pk Od).trans ?_
  refine Eq.trans (AY (r := AL) (s := (rVec 32)) (Fld.fst Fld.self) (a := ((vz 32), (0 : Int), (0 : Int), ((Value.slice none 0 0)))) rfl rfl) ?_
  refine Eq.trans (AY (r := AL) (s := (rInt .i64)) (Fld.snd (Fld.fst Fld.self)) (a := (b0, (0 : Int), (0 : Int), ((Value.slice none 0 0)))) rfl rfl) ?_
  refine Eq.trans (AY (r := AL) (s := (rInt .i64)) (Fld.snd (Fld.snd (Fld.fst Fld.self))) (a := (b0, b1, (0 : Int), ((Value.slice none 0 0)))) rfl rfl) ?_
  rfl
theorem L5 {b0} {b1 : Value} {w : World} (h1 : b1.oneCell' = true) (K : Value → Prop) : rdP P (Instr.build BL #[(0, .agg (Rdr.cells AI b0).toArray), (1, b1)]) w K = K (.agg (Rdr.cells AV (b0, b1, ((Value.slice none 0 0)))).toArray) := by
  refine Ca ?_ K
  refine (BF PV OI Ow).trans ?_
  refine Eq.trans (AY (r := AV) (s := AI) (Fld.fst Fld.self) (a := (((0 : Int), (0 : Int), (0 : Int), (0 : Int)), ((Value.pointer none)), ((Value.slice none 0 0)))) rfl rfl) ?_
  refine Eq.trans (AY (r := AV) (s := qv) (Fld.snd (Fld.fst Fld.self)) (a := (b0, ((Value.pointer none)), ((Value.slice none 0 0)))) rfl (C3 h1)) ?_
  rfl
theorem Mf {b0} {b1} {w : World}  (K : Value → Prop) : rdP P (Instr.build BB #[(0, .agg (Rdr.cells (rVec 32) b0).toArray), (1, .agg (Rdr.cells Ap b1).toArray)]) w K = K (.agg (Rdr.cells Ao (b0, b1)).toArray) := by
  refine Ca ?_ K
  refine (BF Pg PO N6).trans ?_
  refine Eq.trans (AY (r := Ao) (s := (rVec 32)) (Fld.fst Fld.self) (a := ((vz 32), (((Value.slice none 0 0)), (vz 32), (vz 32), (0 : Int), false))) rfl rfl) ?_
  refine Eq.trans (AY (r := Ao) (s := Ap) (Fld.snd Fld.self) (a := (b0, (((Value.slice none 0 0)), (vz 32), (vz 32), (0 : Int), false))) rfl rfl) ?_
  rfl
theorem LL {b0} {b1} {w : World}  (K : Value → Prop) : rdP P (Instr.build Ci #[(0, .agg (Rdr.cells (rVec 32) b0).toArray), (1, .agg (Rdr.cells Au b1).toArray)]) w K = K (.agg (Rdr.cells AF (b0, b1)).toArray) := by
  refine Ca ?_ K
  refine (BF PU PA NZ).trans ?_
  refine Eq.trans (AY (r := AF) (s := (rVec 32)) (Fld.fst Fld.self) (a := ((vz 32), ((vz 32), (0 : Int), ((Value.slice none 0 0))))) rfl rfl) ?_
  refine Eq.trans (AY (r := AF) (s := Au) (Fld.snd Fld.self) (a := (b0, ((vz 32), (0 : Int), ((Value.slice none 0 0))))) rfl rfl) ?_
  rfl
theorem Gu {b0} {w : World}  (K : Value → Prop) : rdP P (Instr.build Bv #[(0, .agg (Rdr.cells (rVec 32) b0).toArray)]) w K = K (.agg (Rdr.cells Ab (b0, (0 : Int))).toArray) := by
  refine Ca ?_ K
  refine (BF YJ X4 WV).trans ?_
  refine Eq.trans (AY (r := Ab) (s := (rVec 32)) (Fld.fst Fld.self) (a := ((vz 32), (0 : Int))) rfl rfl) ?_
  rfl
theorem UN {b1 : Int} {w : World}  (K : Value → Prop) : rdP P (Instr.build Do #[(1, .int .i64 b1)]) w K = K (.agg (Rdr.cells Bb ((false, ((Value.slice none 0 0)), (0 : Int)), b1)).toArray) := by
  refine Ca ?_ K
  refine (BF WU Xt VU).trans ?_
  refine Eq.trans (AY (r := Bb) (s := (rInt .i64)) (Fld.snd Fld.self) (a := ((false, ((Value.slice none 0 0)), (0 : Int)), (0 : Int))) rfl rfl) ?_
  rfl
abbrev Abg := (rInt .i64)
theorem AeS : Trods P Ih Abg := Wm Afx
abbrev R_int := (rInt .i64)
theorem MG : Trods P T_int R_int := Wm U_int
abbrev Ad1 := rBool
theorem AfU : Trods P Fu Ad1 := Acj Us
abbrev VO := (rNat .u8 256)
theorem Yo : Trods P DK VO := Aes Ho
abbrev Kv := (Rdr.pair R_int (Rdr.pair R_int (Rdr.pair R_int R_int)))
theorem WL : Trods P AU Kv := HD OH (by kernel_rfl) (C8 (by kernel_rfl) (by kernel_rfl) MG (C8 (by kernel_rfl) (by kernel_rfl) MG (C8 (by kernel_rfl) (by kernel_rfl) MG (Iz (by kernel_rfl) (by kernel_rfl) MG))))
abbrev Zw := (rVec 32)
theorem Ad9 : Trods P Aa Zw := AdH St Ho (by kernel_rfl) (by kernel_rfl)
abbrev Ef := (Rdr.pair Kv (Rdr.pair Zw (Rdr.pair Abg R_int)))
theorem Nh : Trods P B5 Ef := HD Ob (by kernel_rfl) (C8 (by kernel_rfl) (by kernel_rfl) WL (C8 (by kernel_rfl) (by kernel_rfl) Ad9 (C8 (by kernel_rfl) (by kernel_rfl) AeS (Iz (by kernel_rfl) (by kernel_rfl) MG))))
theorem Ox {H : Type} {enc : TypeId × Value → H} {w : World} {sp : Nat → Bool} {held : Bool} {fuel : Nat} {cs : Array Value} {x : DataW H × List MemPlace} (h : DataW.trod enc P w 0 sp held fuel B5 cs.toList = some x) : ∃ a, cs = (Rdr.cells Ef a).toArray ∧ Rdr.ok Ef w.heap a := by
  obtain ⟨a, e, ok⟩ := Nh H enc w sp held fuel _ x h
  exact ⟨a, by apply Array.ext'; exact e, ok⟩
abbrev Uj := Ac6
theorem Aaj : Trods P Ay Uj := Aa2 Dd Ho (by kernel_rfl)
abbrev GM := (Rdr.pair VO R_int)
theorem PF : Trods P Cr GM := HD Q9 (by kernel_rfl) (C8 (by kernel_rfl) (by kernel_rfl) Yo (Iz (by kernel_rfl) (by kernel_rfl) MG))
abbrev HC := (rSl GM)
theorem Mz : Trods P HT HC := Zd PF MS (by kernel_rfl) (by decide)
abbrev DT := (Rdr.pair Ad1 (Rdr.pair VO (Rdr.pair Uj HC)))
theorem PE : Trods P Ba DT := HD Rn (by kernel_rfl) (C8 (by kernel_rfl) (by kernel_rfl) AfU (C8 (by kernel_rfl) (by kernel_rfl) Yo (C8 (by kernel_rfl) (by kernel_rfl) Aaj (Iz (by kernel_rfl) (by kernel_rfl) Mz))))
abbrev HQ := (rSl DT)
theorem Ms : Trods P E8 HQ := Zd PE M5 (by kernel_rfl) (by decide)
theorem MR {H : Type} {enc : TypeId × Value → H} {w : World} {sp : Nat → Bool} {held : Bool} {fuel : Nat} {v : Value} {x : DataW H × List MemPlace} (h : DataW.trod enc P w 0 sp held fuel E8 [v] = some x) : ∃ l, Rdr.ok HQ w.heap ⟨v, l⟩ := by
  obtain ⟨⟨v', l⟩, e, ok⟩ := Ms H enc w sp held fuel _ x h
  have ev : v = v' := (List.cons.inj e).1
  subst ev
  exact ⟨l, ok⟩
theorem Hd : P.underlying Ay = some (.slice DK) := Dd
theorem Fj : SlT P Ay DK 1 1 := Ew
theorem Sm : zc P DK = #[.int .u8 0] := by kernel_rfl
theorem Zh : P.underlying DK = some (.int .u8) := Ho
theorem Wg : P.underlying Ig = some .string := by kernel_rfl
theorem MM : P.underlying Fu = some .bool := by kernel_rfl
end Go.Fx
set_option linter.unusedVariables false
set_option linter.unusedSimpArgs false
namespace Go.Fx
def part (o : List UInt8) (i : Nat) : List UInt8 := o.take i ++ List.replicate (o.length - i) 0
theorem Aep (o : List UInt8) {i : Nat} (hi : i ≤ o.length) : (part o i).length = o.length := by simp [part]; omega
theorem AeF {o : List UInt8} {i : Nat} {b : UInt8} (hb : o[i]? = some b) : (part o i).set i b = part o (i + 1) := by
  have hi := (List.getElem?_eq_some_iff.1 hb).1
  have hl : (o.take i).length = i := by simp; omega
  unfold part
  rw [List.set_append_right _ _ (by omega), hl, Nat.sub_self, show o.length - i = (o.length - (i + 1)) + 1 by omega, List.replicate_succ, List.set_cons_zero, List.take_add_one, hb]
  simp
theorem We (o : List UInt8) : part o 0 = List.replicate o.length 0 := by simp [part]
theorem ZE {o : List UInt8} : part o o.length = o := by simp [part]
section
variable {w0 w : World} {As : List Asn} {b s : Value} {l m : List UInt8}
theorem st_b {g i : Nat} {o : List UInt8} {t : TypeId} {u : UInt8} {K : World → Prop} (hs : Sep w0 w (blk g (bvs (part o i)).toArray t :: As)) (hu : o[i]? = some u)
    (h : ∀ w', Sep w0 w' (blk g (bvs (part o (i + 1))).toArray t :: As) → K w') : st1 (.pointer (some ⟨g, i, none⟩)) (bv u) w K := by
  have hi := (List.getElem?_eq_some_iff.1 hu).1
  refine st1_s hs (by simp [bvs, Aep o (Nat.le_of_lt hi)]; omega) rfl fun w' hs' => h w' ?_
  have e : (bvs (part o i)).toArray.setIfInBounds i (bv u) = (bvs (part o (i + 1))).toArray := by
    rw [← AeF hu]
    apply Array.ext'
    simp [bvs, List.map_set]
  rw [e] at hs'
  exact hs'
theorem ixa_w {g n : Nat} (k : IntKind) {i : Nat} (hi : i < n) (K : Value → Prop) : ixa n 1 (.pointer (some ⟨g, 0, none⟩)) (.int k (i : Int)) K = K (.pointer (some ⟨g, i, none⟩)) := by
  rw [AdY _ _ _ _ _ _ _ (by omega) (by omega), Int.toNat_natCast, Nat.zero_add, Nat.mul_one]
theorem app1 {u : UInt8} {K : Value → World → Prop} (hs : Sep w0 w (ownB s l :: As)) (hl : l.length ≤ 1000000) (hk : ∀ v' w', Sep w0 w' (ownB v' (l ++ [u]) :: As) → K v' w') :
    efP P (Instr.buildSlice Ay 1 #[(0, bv u)]) w fun t w => efP P (Builtin.append_ #[Ay, Ay] Ay #[s, t]) w K := by
  have hr : ∀ w : World, (Instr.buildSlice Ay 1 #[(0, bv u)]).run P w = .ok (.slice (some ⟨w.heap.size, 0, none⟩) 1 1) (w.alloc (.cells (bvs [u]).toArray DK)) := fun w => by kernel_rfl
  refine Sg (l := [u]) hs rfl (hr w) fun g w1 h1 => ?_
  exact Ga Ew Dd (by simp) h1.p1 h1.rd (by simp; omega) fun v' w' h2 => hk v' w' h2.d1
theorem app0 {K : Value → World → Prop} (j : Int) (hj : j = 0 ∨ j = 128) (hs : Sep w0 w (ownB s l :: As)) (hl : l.length ≤ 1000000) (hk : ∀ v' w', Sep w0 w' (ownB v' (l ++ [if j = 0 then 0 else 128]) :: As) → K v' w') :
    efP P (Instr.buildSlice Ay 1 #[(0, .int .u8 j)]) w fun t w => efP P (Builtin.append_ #[Ay, Ay] Ay #[s, t]) w K := by
  rcases hj with rfl | rfl
  · exact app1 (u := 0) hs hl hk
  · exact app1 (u := 128) hs hl hk
theorem LQ (hb : RdB w.heap b l) (hl : l.length ≤ 140737488355328) : cal P Fz [b] w fun r w' => Sep w w' [ownB r l] := by
  refine WQ fun R hR => ?_
  unfold NH
  obtain ⟨a, c, hv, hl', hh⟩ := id hb
  subst hv
  cases a with
  | none =>
    have h0 : l = [] := by
      rcases hh with h0 | ⟨_, _, _, _, _, h, _⟩
      · exact List.eq_nil_of_length_eq_zero (by omega)
      · cases h
    subst h0
    simp only [fx, Nat.reduceAdd, forall_const]
    exact hR _ _ (Sep.start w).nil
  | some a =>
    simp only [fx, Nat.reduceAdd, forall_const]
    have hb1 : ∀ w : World, (Instr.buildSlice Ay 0 #[]).run P w = .ok (.slice (some ⟨w.heap.size, 0, none⟩) 0 0) (w.alloc (.cells (bvs []).toArray DK)) := fun w => by kernel_rfl
    refine Sg (l := []) (Sep.start w) rfl (hb1 _) fun g w1 hs => ?_
    refine Ga Ew Dd (by simp) hs (hs.rdB hb) (by simp; omega) fun v' w2 hs => ?_
    exact hR _ _ (by simpa using hs)
end
end Go.Fx
set_option linter.unusedVariables false
set_option linter.unusedSimpArgs false
namespace Go.Fx
def pickL (L : List Asn) : List Nat → List Asn → List Asn
  | [], T => T
  | i :: is, T => match L[i]? with
    | some A => A :: pickL L is T
    | none => pickL L is T
theorem Yd {α : Type} : ∀ (X P : List α), X.Nodup → (∀ x ∈ X, x ∈ P) → ∃ rest, P.Perm (X ++ rest)
  | [], P, _, _ => ⟨P, .refl _⟩
  | x :: X, P, hn, hs => by
    obtain ⟨s, t, rfl⟩ := List.append_of_mem (hs x (by simp))
    have hn' := List.nodup_cons.1 hn
    obtain ⟨rest, hr⟩ := Yd X (s ++ t) hn'.2 fun y hy => by
      have := hs y (by simp [hy])
      simp only [List.mem_append, List.mem_cons] at this ⊢
      rcases this with h | h | h
      · exact .inl h
      · subst h; exact absurd hy hn'.1
      · exact .inr h
    exact ⟨rest, List.perm_middle.trans (hr.cons x)⟩
theorem Sj (L : List Asn) (T : List Asn) : ∀ is : List Nat, pickL L is T = (is.filterMap fun i => L.zipIdx[i]?).map (·.1) ++ T
  | [] => rfl
  | i :: is => by
    rw [pickL, List.filterMap_cons]
    cases h : L[i]? with
    | none =>
      have : L.zipIdx[i]? = none := by simpa using h
      rw [this]
      exact Sj L T is
    | some A =>
      have : L.zipIdx[i]? = some (A, i) := by rw [List.getElem?_zipIdx, h]; simp
      rw [this]
      simp only [List.map_cons, List.cons_append]
      rw [Sj L T is]
theorem Uo (L : List Asn) : ∀ is : List Nat, is.Nodup → (is.filterMap fun i => L.zipIdx[i]?).Nodup ∧ ∀ x ∈ (is.filterMap fun i => L.zipIdx[i]?), x.2 ∈ is
  | [], _ => ⟨by simp, by simp⟩
  | i :: is, h => by
    have h' := List.nodup_cons.1 h
    obtain ⟨h1, h2⟩ := Uo L is h'.2
    rw [List.filterMap_cons]
    cases hi : L.zipIdx[i]? with
    | none => exact ⟨h1, fun x hx => by simp [h2 x hx]⟩
    | some x =>
      have hx : x.2 = i := by
        rw [List.getElem?_zipIdx] at hi
        cases hL : L[i]? with
        | none => simp [hL] at hi
        | some A => simp [hL] at hi; rw [← hi]
      refine ⟨List.nodup_cons.2 ⟨fun hm => h'.1 (hx ▸ h2 x hm), h1⟩, fun y hy => ?_⟩
      rcases List.mem_cons.1 hy with rfl | hy
      · simp [hx]
      · simp [h2 y hy]
theorem Sep.dropL {w0 w : World} : ∀ {As Bs : List Asn}, Sep w0 w (As ++ Bs) → Sep w0 w Bs
  | [], _, h => h
  | _ :: As, _, h => Sep.dropL (As := As) h.tail
theorem Sep.pick {w0 w : World} {As : List Asn} (h : Sep w0 w As) (is : List Nat) (n : Nat) (hn : is.Nodup := by decide) : Sep w0 w (pickL (As.take n) is (As.drop n)) := by
  obtain ⟨h1, h2⟩ := Uo (As.take n) is hn
  obtain ⟨rest, hr⟩ := Yd (is.filterMap fun i => (As.take n).zipIdx[i]?) (As.take n).zipIdx h1 fun x hx => by
    obtain ⟨i, _, hi⟩ := List.mem_filterMap.1 hx
    exact List.mem_of_getElem? hi
  rw [Sj]
  have hp := hr.map (·.1)
  rw [List.map_append, List.zipIdx_map_fst] at hp
  have h3 : Sep w0 w ((rest.map (·.1)) ++ ((is.filterMap fun i => (As.take n).zipIdx[i]?).map (·.1) ++ As.drop n)) := by
    refine h.perm ?_
    have e := List.take_append_drop n As
    rw [← List.append_assoc]
    refine (List.Perm.of_eq e.symm).trans (List.Perm.append_right _ (hp.trans List.perm_append_comm))
  exact h3.dropL
def rdA (v : Value) (l : List UInt8) : Asn where
  on h F := ∃ g o c cur t fr, v = .slice (some ⟨g, o, none⟩) l.length c ∧ h[g]? = some (.cells cur t fr) ∧ (cur.toList.drop o).take l.length = bvs l ∧ l.length ≤ c ∧ F = [g]
  fr := fun ⟨g, o, c, cur, t, fr, hv, hg, hc, hle, hF⟩ hf hn => ⟨g, o, c, cur, t, fr, hv, hf.blk hg (hn g (by simp [hF])), hc, hle, hF⟩
  lt := fun ⟨g, o, c, cur, t, fr, hv, hg, hc, hle, hF⟩ k hk => by simp [hF] at hk; subst hk; exact I7 hg
theorem Sep.rda {w0 w : World} {As : List Asn} {v : Value} {l : List UInt8} (h : Sep w0 w (rdA v l :: As)) : RdB w.heap v l := by
  obtain ⟨F, g, o, c, cur, t, fr, rfl, hg, hc, hle, rfl⟩ := h.head
  exact ⟨_, c, rfl, by simp [bvs], .inr ⟨g, o, cur, t, fr, rfl, hg, by rw [Nat.mul_one]; exact hc⟩⟩
theorem lit_s {P : Program} {w0 w : World} {As : List Asn} {t E n : Nat} {s : Sem Value} {l : List UInt8} {K : Value → World → Prop} (hs : Sep w0 w As) (ht : P.underlying t = some (.slice E)) (he : P.underlying E = some (.int .u8)) (hn : n = l.length)
    (hr : s.run P w = .ok (.slice (some ⟨w.heap.size, 0, none⟩) n n) (w.alloc (.cells (bvs l).toArray E))) (h : ∀ g w', Sep w0 w' (rdA (.slice (some ⟨g, 0, none⟩) n n) l :: As) → K (.slice (some ⟨g, 0, none⟩) n n) w') :
    efP P s w fun x w => efP P (convert t t x) w K := by
  subst hn
  refine ⟨_, _, hr, _, _, Lib.run_convert_bytes_const w t E _ _ _ ht he, h _ _ (hs.new (EG w _) (B := rdA _ _) (F' := [w.heap.size]) ⟨_, 0, _, _, E, _, rfl, D1 w _, by rw [List.drop_zero]; exact List.take_of_length_le (by simp [bvs]), Nat.le_refl _, rfl⟩ (by simp))⟩
theorem At.rd {h : Heap} {g o c : Nat} {l : List UInt8} (ha : At h g o (bvs l)) : RdB h (.slice (some ⟨g, o, none⟩) l.length c) l := by
  obtain ⟨cur, t, fr, hg, hn, hc⟩ := ha
  refine ⟨_, c, rfl, by simp [bvs], .inr ⟨g, o, cur, t, fr, rfl, hg, ?_⟩⟩
  rw [Nat.mul_one]
  rw [JW] at hc
  exact hc
theorem VF (len size g o : Nat) (K : Value → Prop) : sla len size (.pointer (some ⟨g, o, none⟩)) none none K = K (.slice (some ⟨g, o, none⟩) len len) := by
  have e : (if len = 0 then (⟨g, o, none⟩ : Addr) else Addr.add ⟨g, o, none⟩ (0 * size)) = ⟨g, o, none⟩ := by
    split
    · rfl
    · rw [Nat.zero_mul, EF, Nat.add_zero]
  refine propext ⟨?_, fun hk => ⟨_, rfl, ?_⟩⟩
  · rintro ⟨a, ha, hk⟩
    cases ha
    simp only [bndO, e, Nat.sub_zero] at hk
    exact hk
  · simp only [bndO, e, Nat.sub_zero]
    exact hk
section
variable {w0 w : World} {As : List Asn} {g n v : Nat} {s ha hc : Value} {a b c : List UInt8}
theorem rdNil (z : World) : RdB z.heap (.slice none 0 0) [] := ⟨none, 0, rfl, rfl, .inl rfl⟩
theorem Afy (hn : n ≤ 8) (hv : v < 18446744073709551616) : cal P Ep [.int .i64 n, .int .u64 v] w fun r w' => Sep w w' [ownB r (be n v)] := by
  refine Xa fun R hR => ?_
  unfold Nx
  refine mkB_s (Sep.start w) Fj Sm (by omega) fun g w1 hs => ?_
  simp only [fx, Nat.reduceAdd, forall_const]
  refine ⟨fun a w2 => ∃ i : Nat, i ≤ n ∧ a = .int .i64 i ∧ Sep w w2 [ownB (.slice (some ⟨g, 0, none⟩) n n) (List.replicate (n - i) 0 ++ be i v)], fun a _ => n - (RowKit.intOf a).toNat, ⟨0, by omega, rfl, by simpa [be] using hs⟩, ?_⟩
  rintro _ w2 ⟨i, hi, rfl, hs2⟩ -
  simp only [fx, Nat.reduceAdd, forall_const]
  rw [Ai]
  refine ⟨fun h => ?_, fun h => ?_⟩
  · have hlt : i < n := by simpa using h
    simp (disch := omega) only [fx, Nat.reduceAdd, forall_const, wi64, T9]
    have e1 : IntKind.u64.bits = 64 := rfl
    have e2 : (n : Int) - 1 - i = ((n - 1 - i : Nat) : Int) := by omega
    rw [e1, shr8 v i (by omega), bv_of _ (Int.natCast_nonneg _), Int.toNat_natCast, e2]
    refine Adw hs2 (by simp [BY]; omega) _ fun w3 hs3 => ?_
    refine ⟨⟨i + 1, by omega, by simp, ?_⟩, by simp [RowKit.intOf]; omega⟩
    have e3 : (List.replicate (n - i) (0 : UInt8) ++ be i v).set (n - 1 - i) (UInt8.ofNat (v / 256 ^ i)) = List.replicate (n - (i + 1)) 0 ++ be (i + 1) v := by
      rw [show n - i = (n - (i + 1)) + 1 by omega, List.replicate_succ', List.append_assoc, List.set_append_right _ _ (by simp; omega), Mv]
      congr 1
      rw [show n - 1 - i - (List.replicate (n - (i + 1)) (0 : UInt8)).length = 0 by simp; omega]
      rfl
    rw [← e3]
    exact hs3
  · have hlt : ¬ i < n := by simpa using h
    obtain rfl : i = n := by omega
    exact hR _ _ (by simpa using hs2)
abbrev pk (g : Nat) (s : Value) (n : Nat) : Asn := blk g (Rdr.cells Bb ((true, s, 0), (n : Int))).toArray Do
theorem Ago (hs : Sep w0 w (pk g s n :: As)) : cal P FJ [.pointer (some ⟨g, 0, none⟩)] w fun r w' => r = .bool true ∧ w = w' := by
  refine Oa fun R hR => ?_
  unfold Ib
  simp only [fx, Nat.reduceAdd, forall_const, En hs.blk, CO hs.blk, Cb hs.blk, Cv hs.blk, Ck hs.blk, CF hs.blk]
  exact hR _ _ ⟨rfl, rfl⟩
theorem putS (hs : Sep w0 w (pk g s n :: ownB s b :: As)) (hra : ∀ z, Sep w0 z As → RdB z.heap ha a) (hrc : ∀ z, Sep w0 z As → RdB z.heap hc c) (hn : n ≤ 8192) (hf : b.length + a.length + c.length ≤ n) :
    cal P CK [.pointer (some ⟨g, 0, none⟩), ha, hc] w fun v w' => v = .tuple #[] ∧ ∃ s', Sep w0 w' (pk g s' n :: ownB s' (b ++ a ++ c) :: As) := by
  refine QQ fun R hR => ?_
  unfold JC
  refine cal_i (Ago hs) ?_
  rintro _ _ ⟨rfl, rfl⟩
  simp only [fx, Nat.reduceAdd, forall_const]
  refine drw_s hs fun w1 hs1 _ => ?_
  have hlb := (Sep.rd hs1.p1).len
  have hla := (hra _ hs1.tail.tail).len
  have hlc := (hrc _ hs1.tail.tail).len
  simp only [fx, Nat.reduceAdd, forall_const, En hs1.blk, CO hs1.blk, Cb hs1.blk, Cv hs1.blk, Ck hs1.blk, CF hs1.blk, hlb, hla, hlc]
  rw [wi64 (x := (n : Int) - b.length) (by omega) (by omega), decide_eq_false (by omega)]
  simp only [fx, Nat.reduceAdd, forall_const]
  rw [wi64 (by omega) (by omega), decide_eq_false (by omega)]
  simp only [fx, Nat.reduceAdd, forall_const, En hs1.blk, CO hs1.blk, Cb hs1.blk, Cv hs1.blk, Ck hs1.blk, CF hs1.blk]
  refine Ga Fj Hd (by simp) hs1.p1 (hra _ hs1.tail.tail) (by omega) fun s1 w2 hs2 => ?_
  refine Ga Fj Hd (by simp) hs2 (hrc _ hs2.tail.tail) (by simp; omega) fun s2 w3 hs3 => ?_
  refine LF hs3.p1 (Sep.one hs3) fun w4 hs4 => ?_
  exact hR _ _ ⟨rfl, s2, hs4⟩
theorem NewS (n : Nat) (hn : n ≤ 8192) : cal P Nf [.int .i64 n] w fun v w' => ∃ g, v = .pointer (some ⟨g, 0, none⟩) ∧ Sep w w' [pk g (.slice none 0 0) n, ownB (.slice none 0 0) []] := by
  refine AcI fun R hR => ?_
  unfold T2
  rw [UN]
  refine bx_s (Sep.start w).nil fun g w1 hs => ?_
  simp only [fx, Nat.reduceAdd, forall_const]
  refine JP hs fun w2 hs2 => ?_
  rw [decide_eq_false (by omega), decide_eq_false (by omega)]
  simp only [fx, Nat.reduceAdd, forall_const]
  exact hR _ _ ⟨g, rfl, hs2⟩
def PkQ (w0 : World) (As : List Asn) (g n : Nat) (b : List UInt8) (v : Value) (w' : World) : Prop := v = .tuple #[] ∧ ∃ s', Sep w0 w' (pk g s' n :: ownB s' b :: As)
section
variable (hs : Sep w0 w (pk g s n :: ownB s b :: As)) (hn : n ≤ 8192)
include hs hn
theorem Vx {m : Nat} {K : World → Prop} (hrc : ∀ z, Sep w0 z As → RdB z.heap hc c) (hm : m ≤ 8) (hv : v < 18446744073709551616) (hf : b.length + m + c.length ≤ n) (h : ∀ s' w', Sep w0 w' (pk g s' n :: ownB s' (b ++ (be m v ++ c)) :: As) → K w') :
    cal P Ep [.int .i64 m, .int .u64 v] w fun t w => cal P CK [.pointer (some ⟨g, 0, none⟩), t, hc] w fun _ w => K w := by
  refine cal_i (Afy hm hv) ?_
  rintro t w1 hs1
  replace hs1 := (hs.join hs1).q2
  refine cal_i (putS (As := ownB t (be m v) :: As) hs1 (fun z hz => Sep.rd hz) (fun z hz => hrc z hz.tail) hn (by rw [BY]; omega)) ?_
  rintro _ w2 ⟨rfl, s', hs2⟩
  have := hs2.d2
  rw [List.append_assoc] at this
  exact h s' w2 this
theorem Agw (hv : v < 65536) (hf : b.length + 2 ≤ n) : cal P FI [.pointer (some ⟨g, 0, none⟩), .int .u16 v] w (PkQ w0 As g n (b ++ be 2 v)) := by
  refine N4 fun R hR => ?_
  unfold HZ
  simp (disch := omega) only [fx, Nat.reduceAdd, forall_const, wu64i]
  refine Vx (m := 2) hs hn (c := []) (fun z _ => rdNil z) (by omega) (by omega) (by simpa using hf) fun s' w' h => ?_
  rw [List.append_nil] at h
  exact hR _ _ ⟨rfl, s', h⟩
theorem LongS (hv : v < 18446744073709551616) (hf : b.length + 8 ≤ n) : cal P Gd [.pointer (some ⟨g, 0, none⟩), .int .u64 v] w (PkQ w0 As g n (b ++ be 8 v)) := by
  refine Qe fun R hR => ?_
  unfold IX
  refine Vx (m := 8) hs hn (c := []) (fun z _ => rdNil z) (by omega) hv (by simpa using hf) fun s' w' h => ?_
  rw [List.append_nil] at h
  exact hR _ _ ⟨rfl, s', h⟩
theorem Af0 (hrc : ∀ z, Sep w0 z As → RdB z.heap hc c) (hf : b.length + c.length ≤ n) : cal P FL [.pointer (some ⟨g, 0, none⟩), hc] w (PkQ w0 As g n (b ++ c)) := by
  refine NS fun R hR => ?_
  unfold Ic
  refine cal_i (putS (a := []) hs (fun z _ => rdNil z) hrc hn (by simpa using hf)) ?_
  rintro _ w' ⟨rfl, s', h⟩
  rw [List.append_nil] at h
  exact hR _ _ ⟨rfl, s', h⟩
theorem Aga (hrc : ∀ z, Sep w0 z As → RdB z.heap hc c) (hf : b.length + 4 + c.length ≤ n) : cal P FM [.pointer (some ⟨g, 0, none⟩), hc] w (PkQ w0 As g n (b ++ (be 4 c.length ++ c))) := by
  refine NR fun R hR => ?_
  unfold H5
  simp (disch := omega) only [fx, Nat.reduceAdd, forall_const, (hrc _ hs.tail.tail).len, wu64i]
  exact Vx (m := 4) hs hn hrc (by omega) (by omega) (by omega) fun s' w' h => hR _ _ ⟨rfl, s', h⟩
omit hn in
theorem OutS (hb : b.length ≤ 8192) : cal P GJ [.pointer (some ⟨g, 0, none⟩)] w fun v w' => ∃ r, v = .tuple #[r, .int .i64 0] ∧ Sep w0 w' (ownB r b :: pk g s n :: ownB s b :: As) := by
  refine Rb fun R hR => ?_
  unfold JB
  have herr : cal P GD [.pointer (some ⟨g, 0, none⟩)] w fun v w' => v = .int .i64 0 ∧ w = w' := by
    refine QM fun R hR => ?_
    unfold JG
    simp only [fx, Nat.reduceAdd, forall_const, En hs.blk, CO hs.blk, Cb hs.blk, Cv hs.blk, Ck hs.blk, CF hs.blk]
    exact hR _ _ ⟨rfl, rfl⟩
  refine cal_i herr ?_
  rintro _ _ ⟨rfl, rfl⟩
  simp only [fx, Nat.reduceAdd, forall_const, En hs.blk, CO hs.blk, Cb hs.blk, Cv hs.blk, Ck hs.blk, CF hs.blk, (Sep.rd hs.p1).len, show ((0 : Int) != 0) = false from rfl]
  refine mkB_s hs Fj Sm (by omega) fun g1 w1 hs1 => ?_
  simp only [fx, Nat.reduceAdd, forall_const, En (Sep.p1 hs1).blk, CO (Sep.p1 hs1).blk, Cb (Sep.p1 hs1).blk, Cv (Sep.p1 hs1).blk, Ck (Sep.p1 hs1).blk, CF (Sep.p1 hs1).blk]
  refine Af8 Fj hs1 (Sep.rd hs1.p2) fun w2 hs2 => ?_
  have e1 : b.take (List.replicate b.length (0 : UInt8)).length ++ (List.replicate b.length (0 : UInt8)).drop b.length = b := by simp
  rw [e1] at hs2
  exact hR _ _ ⟨_, rfl, hs2⟩
end
end
end Go.Fx
set_option linter.unusedVariables false
set_option linter.unusedSimpArgs false
namespace Go.Fx
section
variable {w0 w : World} {As : List Asn} {g n v : Nat} {s : Value} {a b c l : List UInt8} {e : Int}
theorem rNumS (hn : n ≤ 8) (hv : v < 18446744073709551616) : cal P IF [.int .i64 n, .int .u64 v] w fun r w' => Sep w w' [ownB r (be n v)] := by
  refine AaU fun R hR => ?_
  unfold R3
  refine mkB_s (Sep.start w) Fj Sm (by omega) fun g w1 hs => ?_
  simp (disch := omega) only [fx, Nat.reduceAdd, forall_const, wi64]
  refine ⟨fun a b w2 => ∃ i : Nat, i ≤ n ∧ a = .int .u64 ((v / 256 ^ i : Nat) : Int) ∧ b = .int .i64 ((n : Int) - 1 - i) ∧ Sep w w2 [ownB (.slice (some ⟨g, 0, none⟩) n n) (List.replicate (n - i) 0 ++ be i v)],
    fun _ b _ => (RowKit.intOf b + 1).toNat, ⟨0, by omega, by simp, by simp, by simpa [be] using hs⟩, ?_⟩
  rintro _ _ w2 ⟨i, hi, rfl, rfl, hs2⟩ -
  simp only [fx, Nat.reduceAdd, forall_const]
  rw [Ai]
  refine ⟨fun h => ?_, fun h => ?_⟩
  · have hlt : i < n := by simp at h; omega
    have hvi : v / 256 ^ i < 18446744073709551616 := Nat.lt_of_le_of_lt (Nat.div_le_self _ _) hv
    have e0 : (n : Int) - 1 - i = ((n - 1 - i : Nat) : Int) := by omega
    have e1 : ((v / 256 ^ i : Nat) : Int).tmod 256 = ((v / 256 ^ i % 256 : Nat) : Int) := tmodn _ 256
    have e2 : ((v / 256 ^ i : Nat) : Int).tdiv 256 = ((v / 256 ^ (i + 1) : Nat) : Int) := by
      rw [Nat.pow_succ, ← Nat.div_div_eq_div_mul]; exact tdivn _ 256
    rw [KE _ _ _ _ (by omega), e1]
    simp only [FH]
    rw [bv_of _ (by omega), Int.toNat_natCast, e0]
    have e4 : UInt8.ofNat (v / 256 ^ i % 256) = UInt8.ofNat (v / 256 ^ i) := by
      apply UInt8.toNat_inj.1
      simp
    rw [e4]
    refine Adw hs2 (by simp [BY]; omega) _ fun w3 hs3 => ?_
    rw [Yb _ _ _ _ (by omega), e2]
    have hvi2 : v / 256 ^ (i + 1) < 18446744073709551616 := Nat.lt_of_le_of_lt (Nat.div_le_self _ _) hv
    rw [wu64i (Int.natCast_nonneg _) (by omega), wi64 (by omega) (by omega)]
    refine ⟨⟨i + 1, by omega, rfl, by simp; omega, ?_⟩, by simp [RowKit.intOf]⟩
    have e3 : (List.replicate (n - i) (0 : UInt8) ++ be i v).set (n - 1 - i) (UInt8.ofNat (v / 256 ^ i)) = List.replicate (n - (i + 1)) 0 ++ be (i + 1) v := by
      rw [show n - i = (n - (i + 1)) + 1 by omega, List.replicate_succ', List.append_assoc, List.set_append_right _ _ (by simp; omega), Mv]
      congr 1
      rw [show n - 1 - i - (List.replicate (n - (i + 1)) (0 : UInt8)).length = 0 by simp; omega]
      rfl
    rw [← e3]
    exact hs3
  · have hlt : ¬ i < n := by simp at h; omega
    obtain rfl : i = n := by omega
    exact hR _ _ (by simpa using hs2)
end
end Go.Fx
set_option linter.unusedVariables false
set_option linter.unusedSimpArgs false
namespace Go.Fx
theorem Sep.onL {w0 w : World} {As : List Asn} {A : Asn} (h : Sep w0 w As) (hm : A ∈ As) : ∃ F, A.on w.heap F := by
  obtain ⟨s, t, rfl⟩ := List.append_of_mem hm
  exact h.dropL.head
theorem Sep.memB {w0 w : World} {As : List Asn} {g : Nat} {o : Obj} (h : Sep w0 w As) (hm : Asn.obj g o ∈ As) : w.heap[g]? = some o := by
  obtain ⟨F, hF, _⟩ := h.onL hm
  exact hF
theorem Sep.put {w0 w : World} {α : Type} {f : α → Asn} {Xs T : List Asn} {L : List α} {s : α} (h : Sep w0 w (f s :: (Xs ++ (L.map f ++ T)))) : Sep w0 w (Xs ++ ((L ++ [s]).map f ++ T)) := by
  refine h.perm ?_
  rw [List.map_append, List.append_assoc, ← List.append_assoc, ← List.append_assoc]
  exact List.perm_middle.symm
theorem Sep.dropR {w0 w : World} {As Bs : List Asn} (h : Sep w0 w (As ++ Bs)) : Sep w0 w As := (h.perm List.perm_append_comm).dropL
theorem AG {S : World → Prop} {p v : Value} {K : Value → Prop} (hS : ∀ u, S u → ∀ K : Value → Prop, K v → ld1 p u.heap K) (hk : K v) : rdS S (fun w => ld1 p w.heap) K := ⟨v, fun u hu => hS u hu _ rfl, hk⟩
theorem AdQ {w0 z : World} {As : List Asn} {g n c : Nat} {a : Vec n} {T : TypeId} (h : Sep w0 z (blk g (Rdr.cells (rVec n) a).toArray T :: As)) : RdB z.heap (.slice (some ⟨g, 0, none⟩) n c) a.1 := by
  have hat : At z.heap g 0 (bvs a.1) := At.blk (cs := Rdr.cells (rVec n) a) h.blk
  have := At.rd (c := c) hat
  rwa [a.2] at this
theorem T0 {α β : Type} {s : Nat} {g : α → List β} (hg : ∀ a, (g a).length = s) : ∀ (l : List α) (k : Nat), (l.flatMap g).drop (k * s) = (l.drop k).flatMap g
  | [], k => by simp
  | b :: l, 0 => by simp
  | b :: l, k + 1 => by
    rw [List.drop_succ_cons, List.flatMap_cons, ← T0 hg l k, Nat.succ_mul, Nat.add_comm, ← List.drop_drop, List.drop_left' (hg b)]
theorem Rows'.take {α : Type} {q : Rdr α} {h : Heap} {a : Option Addr} {n c k : Nat} {l : List α} (hr : Rows' q h (.slice a n c) l) (hk : k ≤ l.length) (c' : Nat) : Rows' q h (.slice a k c') (l.take k) := by
  have hn : n = l.length := by obtain ⟨_, _, hv, _⟩ := hr; cases hv; rfl
  subst hn
  have := Cel.take (k := k) hr hk c'
  unfold Rows'
  rw [T4 q.len] at this
  rw [List.length_take, Nat.min_eq_left hk]
  exact this
theorem Rows'.drop {α : Type} {q : Rdr α} {h : Heap} {a : Option Addr} {n c k : Nat} {l : List α} (hr : Rows' q h (.slice a n c) l) (hk : k ≤ l.length) (hc : l.length ≤ c) (c' : Nat) : Rows' q h (.slice (if c = k then a else a.map (·.add (k * q.size))) (n - k) c') (l.drop k) := by
  have hn : n = l.length := by obtain ⟨_, _, hv, _⟩ := hr; cases hv; rfl
  subst hn
  have := Cel.drop (k := k) hr hk hc c'
  unfold Rows'
  rw [T0 q.len] at this
  rw [List.length_drop]
  exact this
end Go.Fx
set_option linter.unusedVariables false
set_option linter.unusedSimpArgs false
namespace Go.Fx
abbrev W32 := BitVec 32
def wv (x : W32) : Value := .int .u32 (x.toNat : Int)
def wvs (l : List W32) : List Value := l.map wv
theorem Io (x : W32) : BitVec.ofInt 32 (x.toNat : Int) = x := by
  apply BitVec.eq_of_toNat_eq
  rw [BitVec.toNat_ofInt]
  have := x.isLt
  omega
theorem wu32w (x : W32) : IntKind.u32.wrap (x.toNat : Int) = (x.toNat : Int) := by
  have := x.isLt
  rw [wu32i (by omega) (by omega)]
section
variable (x y : W32) (K : Value → Prop)
theorem CS : bi .add (wv x) (wv y) K = K (wv (x + y)) := by
  unfold wv
  rw [UC, wu32, BitVec.toNat_add]
  have e : (((x.toNat + y.toNat) % 2 ^ 32 : Nat) : Int) = ((x.toNat : Int) + y.toNat) % 4294967296 := by omega
  rw [e]
theorem AdK : bi .mul (wv x) (.int .u32 256) K = K (wv (x * 256)) := by
  unfold wv
  rw [Qc, wu32, BitVec.toNat_mul]
  have e : (((x.toNat * (256 : W32).toNat) % 2 ^ 32 : Nat) : Int) = ((x.toNat : Int) * 256) % 4294967296 := by
    rw [show (256 : W32).toNat = 256 from rfl]
    omega
  rw [e]
theorem CT : bi .xor (wv x) (wv y) K = K (wv (x ^^^ y)) := by
  unfold wv
  rw [Agp]
  show K (.int .u32 (IntKind.u32.wrap ((BitVec.ofInt 32 (x.toNat : Int) ^^^ BitVec.ofInt 32 (y.toNat : Int)).toNat : Int))) = _
  rw [Io, Io, wu32w]
theorem KC : bi .and (wv x) (wv y) K = K (wv (x &&& y)) := by
  unfold wv
  rw [Adn]
  show K (.int .u32 (IntKind.u32.wrap ((BitVec.ofInt 32 (x.toNat : Int) &&& BitVec.ofInt 32 (y.toNat : Int)).toNat : Int))) = _
  rw [Io, Io, wu32w]
theorem wv_or : bi .or (wv x) (wv y) K = K (wv (x ||| y)) := by
  unfold wv
  rw [bi_or]
  show K (.int .u32 (IntKind.u32.wrap ((BitVec.ofInt 32 (x.toNat : Int) ||| BitVec.ofInt 32 (y.toNat : Int)).toNat : Int))) = _
  rw [Io, Io, wu32w]
theorem TF (k : IntKind) {n : Nat} (hn : n ≤ 32) : sh .shr (wv x) (.int k (n : Int)) K = K (wv (x >>> n)) := by
  unfold wv
  rw [T9 _ _ _ _ _ (by omega)]
  have h1 : min ((n : Int)).toNat IntKind.u32.bits = n := by show min n 32 = n; omega
  rw [h1, BitVec.toNat_ushiftRight, Nat.shiftRight_eq_div_pow]
  have h2 : ((2 : Int) ^ n) = ((2 ^ n : Nat) : Int) := by simp
  rw [h2, Int.ofNat_fdiv]
theorem Zi (k : IntKind) {n : Nat} (hn : n ≤ 32) : sh .shl (wv x) (.int k (n : Int)) K = K (wv (x <<< n)) := by
  unfold wv
  rw [Agf _ _ _ _ _ (by omega)]
  have h1 : min ((n : Int)).toNat IntKind.u32.bits = n := by show min n 32 = n; omega
  rw [h1, wu32, BitVec.toNat_shiftLeft, Nat.shiftLeft_eq, Int.natCast_emod, Int.natCast_mul, Int.natCast_pow]
  rfl
theorem AdO {w : World} {P : Program} : rdP P (Op.unary .xor (wv x)) w K = K (wv (~~~x)) := by
  refine Dc ?_ K
  have e : BitVec.ofInt 32 (x.toNat : Int) = x := Io x
  have h : (BitVec.ofInt 32 4294967295 ^^^ BitVec.ofInt 32 (x.toNat : Int)) = ~~~x := by
    rw [e, show BitVec.ofInt 32 4294967295 = BitVec.allOnes 32 from rfl, BitVec.allOnes_xor]
  have hr : (Op.unary .xor (wv x)).run P w = .ok (.int .u32 (IntKind.u32.wrap ((BitVec.ofInt 32 4294967295 ^^^ BitVec.ofInt 32 (x.toNat : Int)).toNat : Int))) w := rfl
  rw [hr, h, wu32w]
  rfl
theorem wv_b (b : UInt8) : cvi .u32 (bv b) K = K (wv (BitVec.ofNat 32 b.toNat)) := by
  unfold wv bv
  have := b.toNat_lt
  rw [FH, wu32i (by omega) (by omega), BitVec.toNat_ofNat, Nat.mod_eq_of_lt (by omega)]
theorem w_b : cvi .u8 (wv x) K = K (bv (UInt8.ofNat x.toNat)) := by
  unfold wv
  rw [FH, bv_of _ (by omega), Int.toNat_natCast]
end
end Go.Fx
set_option linter.unusedVariables false
set_option linter.unusedSimpArgs false
namespace Go.Fx
def rotr (x : W32) (n : Nat) : W32 := x <<< (32 - n) ||| x >>> n
def word4 (a b c d : UInt8) : W32 := BitVec.ofNat 32 (((a.toNat * 256 + b.toNat) * 256 + c.toNat) * 256 + d.toNat)
def wd (b : List UInt8) (t : Nat) : W32 := word4 (b.getD (4 * t) 0) (b.getD (4 * t + 1) 0) (b.getD (4 * t + 2) 0) (b.getD (4 * t + 3) 0)
def bw (b : UInt8) : W32 := BitVec.ofNat 32 b.toNat
theorem or_lt {a b n : Nat} (hb : b < 2 ^ n) : a * 2 ^ n ||| b = a * 2 ^ n + b := by
  rw [Nat.mul_comm, ← Nat.two_pow_add_eq_or_of_lt hb]
theorem AdX (b : UInt8) : (bw b).toNat = b.toNat := by
  have := b.toNat_lt
  unfold bw
  rw [BitVec.toNat_ofNat, Nat.mod_eq_of_lt (by omega)]
theorem AeB (a b c d : UInt8) : bw a <<< 24 ||| bw b <<< 16 ||| bw c <<< 8 ||| bw d = word4 a b c d := by
  have ha := a.toNat_lt; have hb := b.toNat_lt; have hc := c.toNat_lt; have hd := d.toNat_lt
  apply BitVec.eq_of_toNat_eq
  unfold word4
  simp only [BitVec.toNat_or, BitVec.toNat_shiftLeft, AdX, Nat.shiftLeft_eq, BitVec.toNat_ofNat]
  rw [Nat.mod_eq_of_lt (show a.toNat * 2 ^ 24 < 2 ^ 32 by omega), Nat.mod_eq_of_lt (show b.toNat * 2 ^ 16 < 2 ^ 32 by omega), Nat.mod_eq_of_lt (show c.toNat * 2 ^ 8 < 2 ^ 32 by omega), Nat.mod_eq_of_lt (show ((a.toNat * 256 + b.toNat) * 256 + c.toNat) * 256 + d.toNat < 2 ^ 32 by omega)]
  rw [or_lt (show b.toNat * 2 ^ 16 < 2 ^ 24 by omega)]
  rw [show a.toNat * 2 ^ 24 + b.toNat * 2 ^ 16 = (a.toNat * 256 + b.toNat) * 2 ^ 16 by omega, or_lt (show c.toNat * 2 ^ 8 < 2 ^ 16 by omega)]
  rw [show (a.toNat * 256 + b.toNat) * 2 ^ 16 + c.toNat * 2 ^ 8 = ((a.toNat * 256 + b.toNat) * 256 + c.toNat) * 2 ^ 8 by omega, or_lt (show d.toNat < 2 ^ 8 by omega)]
theorem Adt (a b c d : UInt8) : (((0 * 256 + bw a) * 256 + bw b) * 256 + bw c) * 256 + bw d = word4 a b c d := by
  apply BitVec.eq_of_toNat_eq
  unfold word4
  simp only [BitVec.toNat_add, BitVec.toNat_mul, AdX, BitVec.toNat_ofNat]
  have h0 : (0 : W32).toNat = 0 := rfl
  have h1 : (256 : W32).toNat = 256 := rfl
  rw [h0, h1]
  omega
def sg0 (x : W32) : W32 := rotr x 7 ^^^ rotr x 18 ^^^ x >>> 3
def sg1 (y : W32) : W32 := rotr y 17 ^^^ rotr y 19 ^^^ y >>> 10
def nextW (b : List UInt8) (w : List W32) (t : Nat) : W32 := if t < 16 then wd b t else sg1 (w.getD (t - 2) 0) + w.getD (t - 7) 0 + sg0 (w.getD (t - 15) 0) + w.getD (t - 16) 0
def sch (b : List UInt8) : Nat → List W32
  | 0 => List.replicate 64 0
  | t + 1 => (sch b t).set t (nextW b (sch b t) t)
theorem JZ (b : List UInt8) : ∀ t, (sch b t).length = 64
  | 0 => List.length_replicate
  | t + 1 => by rw [sch, List.length_set, JZ b t]
theorem XN (b : List UInt8) : ∀ t j, t ≤ j → (sch b t).getD j 0 = 0
  | 0, j, _ => by
    unfold sch
    rw [List.getD_eq_getElem?_getD, List.getElem?_replicate]
    split <;> rfl
  | t + 1, j, h => by
    have := XN b t j (by omega)
    rw [sch, List.getD_eq_getElem?_getD, List.getElem?_set_ne (by omega), ← List.getD_eq_getElem?_getD]
    exact this
def GV : List W32 := [0x428a2f98, 0x71374491, 0xb5c0fbcf, 0xe9b5dba5, 0x3956c25b, 0x59f111f1, 0x923f82a4, 0xab1c5ed5, 0xd807aa98, 0x12835b01, 0x243185be, 0x550c7dc3, 0x72be5d74, 0x80deb1fe, 0x9bdc06a7, 0xc19bf174, 0xe49b69c1, 0xefbe4786, 0x0fc19dc6, 0x240ca1cc, 0x2de92c6f, 0x4a7484aa, 0x5cb0a9dc, 0x76f988da, 0x983e5152, 0xa831c66d, 0xb00327c8, 0xbf597fc7, 0xc6e00bf3, 0xd5a79147, 0x06ca6351, 0x14292967, 0x27b70a85, 0x2e1b2138, 0x4d2c6dfc, 0x53380d13, 0x650a7354, 0x766a0abb, 0x81c2c92e, 0x92722c85, 0xa2bfe8a1, 0xa81a664b, 0xc24b8b70, 0xc76c51a3, 0xd192e819, 0xd6990624, 0xf40e3585, 0x106aa070, 0x19a4c116, 0x1e376c08, 0x2748774c, 0x34b0bcb5, 0x391c0cb3, 0x4ed8aa4a, 0x5b9cca4f, 0x682e6ff3, 0x748f82ee, 0x78a5636f, 0x84c87814, 0x8cc70208, 0x90befffa, 0xa4506ceb, 0xbef9a3f7, 0xc67178f2]
def FY : List W32 := [0x6a09e667, 0xbb67ae85, 0x3c6ef372, 0xa54ff53a, 0x510e527f, 0x9b05688c, 0x1f83d9ab, 0x5be0cd19]
def t1M (k w e v5 v6 v7 : W32) : W32 := v7 + (rotr e 6 ^^^ rotr e 11 ^^^ rotr e 25) + ((e &&& v5) ^^^ (~~~e &&& v6)) + k + w
def t2M (a v1 v2 : W32) : W32 := (rotr a 2 ^^^ rotr a 13 ^^^ rotr a 22) + ((a &&& v1) ^^^ (a &&& v2) ^^^ (v1 &&& v2))
def rnd (k w : W32) (v : List W32) : List W32 :=
  let t1 := t1M k w (v.getD 4 0) (v.getD 5 0) (v.getD 6 0) (v.getD 7 0)
  [t1 + t2M (v.getD 0 0) (v.getD 1 0) (v.getD 2 0), v.getD 0 0, v.getD 1 0, v.getD 2 0, v.getD 3 0 + t1, v.getD 4 0, v.getD 5 0, v.getD 6 0]
def rns (b : List UInt8) (h : List W32) : Nat → List W32
  | 0 => h
  | t + 1 => rnd (GV.getD t 0) ((sch b 64).getD t 0) (rns b h t)
theorem Vm (b : List UInt8) {h : List W32} (hh : h.length = 8) : ∀ t, (rns b h t).length = 8
  | 0 => hh
  | t + 1 => rfl
def mixM (h : List W32) (b : List UInt8) : List W32 := List.zipWith (· + ·) h (rns b h 64)
theorem M3 (b : List UInt8) {h : List W32} (hh : h.length = 8) : (mixM h b).length = 8 := by
  unfold mixM
  rw [List.length_zipWith, Vm b hh, hh]
  rfl
def foldM (h : List W32) (l : List UInt8) : List W32 := if 64 ≤ l.length then foldM (mixM h (l.take 64)) (l.drop 64) else h
  termination_by l.length
  decreasing_by simp; omega
theorem Fg {h : List W32} {l : List UInt8} (hl : 64 ≤ l.length) : foldM h l = foldM (mixM h (l.take 64)) (l.drop 64) := by rw [foldM, if_pos hl]
theorem Ge {h : List W32} {l : List UInt8} (hl : ¬ 64 ≤ l.length) : foldM h l = h := by rw [foldM, if_neg hl]
theorem Adl {l : List UInt8} : ∀ {h : List W32}, h.length = 8 → (foldM h l).length = 8 := by
  induction hn : l.length using Nat.strongRecOn generalizing l with
  | ind n ih =>
    intro h hh
    by_cases hl : 64 ≤ l.length
    · rw [Fg hl]
      exact ih _ (by simp; omega) rfl (M3 _ hh)
    · rw [Ge hl]; exact hh
theorem V5 {a b : List UInt8} (ha : a.length % 64 = 0) : ∀ {h : List W32}, foldM h (a ++ b) = foldM (foldM h a) b := by
  induction hn : a.length using Nat.strongRecOn generalizing a with
  | ind n ih =>
    intro h
    by_cases hl : 64 ≤ a.length
    · rw [Fg hl, Fg (by rw [List.length_append]; omega), List.take_append_of_le_length hl, List.drop_append_of_le_length hl]
      exact ih _ (by simp; omega) (by simp; omega) rfl
    · have : a = [] := List.eq_nil_of_length_eq_zero (by omega)
      subst this
      rw [Ge hl, List.nil_append]
def zer (m : Nat) : Nat := (120 - m % 64) % 64
theorem Adp {m j : Nat} (h : j < zer m) : (m + j) % 64 ≠ 56 := by unfold zer at h; omega
theorem Yg (m : Nat) : (m + zer m) % 64 = 56 := by unfold zer; omega
theorem Yv (m : Nat) : zer m < 64 := by unfold zer; omega
def padT (r : List UInt8) (n : Nat) : List UInt8 := r ++ [128] ++ List.replicate (zer (r.length + 1)) 0 ++ be 8 (n * 8 % 18446744073709551616)
theorem Zg (r : List UInt8) (n : Nat) : (padT r n).length % 64 = 0 := by
  unfold padT
  simp only [List.length_append, List.length_replicate, List.length_singleton, BY]
  have := Yg (r.length + 1)
  omega
theorem AeJ (a r : List UInt8) (n : Nat) (ha : a.length % 64 = 0) : padT (a ++ r) n = a ++ padT r n := by
  unfold padT
  have : zer ((a ++ r).length + 1) = zer (r.length + 1) := by unfold zer; rw [List.length_append]; omega
  rw [this]
  simp
def shaL (l : List UInt8) : List W32 := foldM FY (padT l l.length)
theorem AeP (l : List UInt8) : (shaL l).length = 8 := Adl rfl
def wOut (x : W32) : List UInt8 := [UInt8.ofNat (x >>> 24).toNat, UInt8.ofNat (x >>> 16).toNat, UInt8.ofNat (x >>> 8).toNat, UInt8.ofNat x.toNat]
theorem So (h : List W32) : (h.flatMap wOut).length = 4 * h.length := by
  induction h with
  | nil => rfl
  | cons x h ih => rw [List.flatMap_cons, List.length_append, ih]; simp [wOut]; omega
def shaM (l : List UInt8) : Vec 32 := ⟨(shaL l).flatMap wOut, by rw [So, AeP]⟩
end Go.Fx
set_option linter.unusedVariables false
set_option linter.unusedSimpArgs false
namespace Go.Fx
abbrev wa (g : Nat) (l : List W32) (T : TypeId) : Asn := blk g (wvs l).toArray T
theorem U7 {l : List W32} {i : Nat} (hi : i < l.length) : (wvs l)[i]? = some (wv (l.getD i 0)) := by
  simp [wvs, List.getD_eq_getElem?_getD, List.getElem?_eq_getElem hi]
theorem Vc (l : List W32) : ∀ u ∈ wvs l, u.oneCell' = true := by
  intro u hu
  obtain ⟨x, _, rfl⟩ := List.mem_map.1 hu
  rfl
theorem shl_l (x : W32) (j : IntKind) (m : Int) (h0 : 0 ≤ m) (h1 : m ≤ 32) (K : Value → Prop) : sh .shl (wv x) (.int j m) K = K (wv (x <<< m.toNat)) := by
  obtain ⟨n, rfl⟩ := Int.eq_ofNat_of_zero_le h0
  exact Zi x K j (by omega)
theorem shr_l (x : W32) (j : IntKind) (m : Int) (h0 : 0 ≤ m) (h1 : m ≤ 32) (K : Value → Prop) : sh .shr (wv x) (.int j m) K = K (wv (x >>> m.toNat)) := by
  obtain ⟨n, rfl⟩ := Int.eq_ofNat_of_zero_le h0
  exact TF x K j (by omega)
section
variable {w0 w : World} {g : Nat} {l : List W32} {t : TypeId} {fr : Nat × Nat} {h : Heap} {As : List Asn}
theorem ld_w (hg : h[g]? = some (.cells (wvs l).toArray t fr)) {i : Nat} (hi : i < l.length) (K : Value → Prop) : ld1 (.pointer (some ⟨g, i, none⟩)) h K = K (wv (l.getD i 0)) := by
  rw [P9 hg, List.getElem?_toArray, U7 hi]
  exact Cu _ K
theorem ldN_w (hg : h[g]? = some (.cells (wvs l).toArray t fr)) {n : Nat} (hn : l.length = n) (K : Value → Prop) : ldN n (.pointer (some ⟨g, 0, none⟩)) h K = K (.agg (wvs l).toArray) := by
  have hl : (wvs l).length = n := by simp [wvs, hn]
  rw [Ade hg]
  have e : (wvs l).toArray.extract 0 (0 + n) = (wvs l).toArray := by
    apply Array.ext'
    simp [← hl]
  rw [e]
  exact propext ⟨fun h => h.2, fun h => ⟨by simp [hl], h⟩⟩
theorem st_w {K : World → Prop} (hs : Sep w0 w (wa g l t :: As)) {i : Nat} (hi : i < l.length) (x : W32) (h : ∀ w', Sep w0 w' (wa g (l.set i x) t :: As) → K w') : st1 (.pointer (some ⟨g, i, none⟩)) (wv x) w K := by
  refine st1_s hs (by simpa [wvs] using hi) rfl fun w' hs' => h w' ?_
  have e : (wvs l).toArray.setIfInBounds i (wv x) = (wvs (l.set i x)).toArray := by
    apply Array.ext'
    simp [wvs, List.map_set]
  rw [e] at hs'
  exact hs'
theorem stN_w {K : World → Prop} {n : Nat} {l' : List W32} (hs : Sep w0 w (wa g l t :: As)) (hl : l.length = n) (hl' : l'.length = n) (h : ∀ w', Sep w0 w' (wa g l' t :: As) → K w') :
    stN n (.pointer (some ⟨g, 0, none⟩)) (.agg (wvs l').toArray) w K := by
  refine stN_s hs (by simp [wvs, hl']) (by simp [wvs, hl]) (by simpa using Vc l') fun w' hs' => h w' ?_
  have e : splice (wvs l).toArray 0 (wvs l').toArray.toList = (wvs l').toArray := by
    apply Array.ext'
    simp [splice, wvs, hl', ← hl]
  rw [e] at hs'
  exact hs'
theorem ixa_l {n : Nat} (k : IntKind) (i : Int) (h0 : 0 ≤ i) (hi : i < n) (K : Value → Prop) : ixa n 1 (.pointer (some ⟨g, 0, none⟩)) (.int k i) K = K (.pointer (some ⟨g, i.toNat, none⟩)) := by
  rw [AdY _ _ _ _ _ _ _ h0 hi, Nat.zero_add, Nat.mul_one]
theorem ixv_w {n i : Nat} (k : IntKind) (hl : l.length = n) (hi : i < n) (K : Value → Prop) : ixv n 1 false (.agg (wvs l).toArray) (.int k (i : Int)) K = K (wv (l.getD i 0)) := by
  refine propext ⟨fun ⟨cs, k', j, h1, h2, h3, h4, h5⟩ => ?_, fun h => ⟨_, _, _, rfl, rfl, by omega, by omega, ?_⟩⟩
  · cases h1; cases h2
    obtain ⟨v, hv, hk⟩ := (show ∃ v, _ ∧ _ from h5)
    rw [Int.toNat_natCast, Nat.mul_one, List.getElem?_toArray, U7 (by omega)] at hv
    cases hv
    exact hk
  · show ∃ v, _ ∧ _
    exact ⟨_, by rw [Int.toNat_natCast, Nat.mul_one, List.getElem?_toArray, U7 (by omega)], h⟩
theorem A_a64 (w : World) : (Instr.alloc Bc true (.tuple #[])).run P w = .ok (.pointer (some ⟨w.heap.size, 0, none⟩)) (w.alloc (.cells (wvs (List.replicate 64 0)).toArray Bc)) := by kernel_rfl
theorem A_a8 (w : World) : (Instr.alloc A4 true (.tuple #[])).run P w = .ok (.pointer (some ⟨w.heap.size, 0, none⟩)) (w.alloc (.cells (wvs (List.replicate 8 0)).toArray A4)) := by kernel_rfl
theorem EJ {x : W32} (m : Int) (n : Nat) (hn : n ≤ 32) (hk : IntKind.u64.wrap ((BitVec.ofInt IntKind.u64.bits (IntKind.u64.wrap m) &&& BitVec.ofInt IntKind.u64.bits 31).toNat : Int) = ((32 - n : Nat) : Int)) :
    cal P Bg [wv x, .int .i64 m] w fun r w' => r = wv (rotr x n) ∧ w = w' := by
  refine Km fun R hR => ?_
  unfold FT
  rw [FH, Adn, hk, Zi x _ .u64 (by omega), O1]
  have e : IntKind.u64.wrap (32 - ((32 - n : Nat) : Int)) = (n : Int) := by rw [wu64i (by omega) (by omega)]; omega
  rw [e, TF x _ .u64 hn, wv_or]
  exact hR _ _ ⟨rfl, rfl⟩
theorem C9 {x : W32} (m : Int) (n : Nat) (hm : m = n) (hn : n ≤ 32) : cal P B1 [wv x, .int .u64 m] w fun r w' => r = wv (rotr x n) ∧ w = w' := by
  subst hm
  refine Vi fun R hR => ?_
  unfold MJ
  rw [TF x _ .u64 hn, O1]
  have e : IntKind.u64.wrap (32 - (n : Int)) = ((32 - n : Nat) : Int) := by rw [wu64i (by omega) (by omega)]; omega
  rw [e, Zi x _ .u64 (by omega), wv_or, BitVec.or_comm]
  exact hR _ _ ⟨rfl, rfl⟩
end
end Go.Fx
set_option linter.unusedVariables false
set_option linter.unusedSimpArgs false
namespace Go.Fx
section
variable {w0 w : World} {b : Value} {l : List UInt8}
theorem Mk {l : List UInt8} {i : Nat} (h : i < l.length) : l[i] = l.getD i 0 := by simp [List.getD_eq_getElem?_getD, List.getElem?_eq_getElem h]
theorem XA (hb : RdB w.heap b l) (hl : l.length = 64) : cal P Ip [b] w fun r w' => r = .agg (wvs (sch l 64)).toArray ∧ Fr [] w w' := by
  refine Vk fun R hR => ?_
  unfold MI
  refine Ax (Sep.start w) (A_a64 w) fun g2 w2 hs => ?_
  refine Ax hs (A_a64 w2) fun g3 w3 hs => ?_
  refine ⟨fun a w' => ∃ t : Nat, a = .int .i64 t ∧ t ≤ 64 ∧ Sep w w' [wa g3 (sch l t) Bc, wa g2 (List.replicate 64 0) Bc], fun z _ => (64 - RowKit.intOf z).toNat, ⟨0, rfl, by omega, hs⟩, ?_⟩
  rintro _ w4 ⟨t, rfl, ht, hs4⟩ -
  simp only [fx, Nat.reduceAdd, forall_const]
  have hlen := JZ l t
  rw [Ai]
  refine ⟨fun h => ?_, fun h => ?_⟩
  · have h64 : t < 64 := by simp at h; omega
    refine ⟨fun w' => Sep w w' [wa g3 (sch l (t + 1)) Bc, wa g2 (List.replicate 64 0) Bc], ?_, ?_⟩
    · change cnd _ _ _
      rw [Ai]
      refine ⟨fun h => ?_, fun h => ?_⟩
      · have h16 : t < 16 := by simp at h; omega
        refine drH_s hs4 fun w5 hs5 _ => ?_
        have hb5 := hs5.rdB hb
        have e0 : IntKind.i64.wrap (4 * (t : Int)) = ((4 * t : Nat) : Int) := by rw [wi64 (by omega) (by omega)]; omega
        have e1 : IntKind.i64.wrap (((4 * t : Nat) : Int) + 1) = ((4 * t + 1 : Nat) : Int) := by rw [wi64 (by omega) (by omega)]; omega
        have e2 : IntKind.i64.wrap (((4 * t : Nat) : Int) + 2) = ((4 * t + 2 : Nat) : Int) := by rw [wi64 (by omega) (by omega)]; omega
        have e3 : IntKind.i64.wrap (((4 * t : Nat) : Int) + 3) = ((4 * t + 3 : Nat) : Int) := by rw [wi64 (by omega) (by omega)]; omega
        simp only [EU, e0, e1, e2, e3]
        refine ldxB hb5 (by omega) ?_
        rw [wv_b, shl_l _ .u64 24 (by decide) (by decide)]
        refine ldxB hb5 (by omega) ?_
        rw [wv_b, shl_l _ .u64 16 (by decide) (by decide), wv_or]
        refine ldxB hb5 (by omega) ?_
        rw [wv_b, shl_l _ .u64 8 (by decide) (by decide), wv_or]
        refine ldxB hb5 (by omega) ?_
        rw [wv_b, wv_or, ixa_w .i64 h64]
        refine C2 (st_w hs5 (by omega) _ fun w6 hs6 => ?_)
        rw [sch, nextW, if_pos h16, wd, ← AeB, ← Mk (by omega), ← Mk (by omega), ← Mk (by omega), ← Mk (by omega)]
        exact hs6
      · have h16 : ¬ t < 16 := by simp at h; omega
        refine drw_s hs4 fun w5 hs5 _ => ?_
        have e15 : IntKind.i64.wrap ((t : Int) - 15) = ((t - 15 : Nat) : Int) := by rw [wi64 (by omega) (by omega)]; omega
        have e2 : IntKind.i64.wrap ((t : Int) - 2) = ((t - 2 : Nat) : Int) := by rw [wi64 (by omega) (by omega)]; omega
        have e7 : IntKind.i64.wrap ((t : Int) - 7) = ((t - 7 : Nat) : Int) := by rw [wi64 (by omega) (by omega)]; omega
        have e16 : IntKind.i64.wrap ((t : Int) - 16) = ((t - 16 : Nat) : Int) := by rw [wi64 (by omega) (by omega)]; omega
        rw [e15, ixa_w .i64 (by omega), ld_w hs5.blk (by omega), e2, ixa_w .i64 (by omega), ld_w hs5.blk (by omega)]
        refine cal_i (EJ (-7) 7 (by decide) (by decide)) ?_
        rintro _ _ ⟨rfl, rfl⟩
        refine cal_i (EJ (-18) 18 (by decide) (by decide)) ?_
        rintro _ _ ⟨rfl, rfl⟩
        rw [CT, shr_l _ .u64 3 (by decide) (by decide), CT]
        refine cal_i (EJ (-17) 17 (by decide) (by decide)) ?_
        rintro _ _ ⟨rfl, rfl⟩
        refine cal_i (EJ (-19) 19 (by decide) (by decide)) ?_
        rintro _ _ ⟨rfl, rfl⟩
        rw [CT, shr_l _ .u64 10 (by decide) (by decide), CT]
        refine drH_s hs5 fun w6 hs6 _ => ?_
        simp only [EU, e7, e16]
        rw [ixa_w .i64 (by omega), ld_w hs6.blk (by omega), CS, CS, ixa_w .i64 (by omega), ld_w hs6.blk (by omega), CS, ixa_w .i64 h64]
        refine C2 (st_w hs6 (by omega) _ fun w7 hs7 => ?_)
        rw [sch, nextW, if_neg h16]
        exact hs7
    · intro w5 hs5 _
      rw [wi64 (by omega) (by omega)]
      exact ⟨⟨t + 1, by simp, by omega, hs5⟩, by simp [RowKit.intOf]; omega⟩
  · have h64 : t = 64 := by simp at h; omega
    subst h64
    rw [ldN_w hs4.blk hlen]
    refine stN_w hs4.p1 (by simp) hlen fun w5 hs5 => ?_
    rw [ldN_w hs5.blk hlen]
    exact hR _ _ ⟨rfl, hs5.fr0⟩
theorem Ab3 (hb : RdB w.heap b l) (hl : l.length = 64) : cal P Jn [b] w fun r w' => r = .agg (wvs (sch l 64)).toArray ∧ Fr [] w w' := by
  refine Xf fun R hR => ?_
  unfold NB
  refine Ax (Sep.start w) (A_a64 w) fun g2 w2 hs => ?_
  refine Ax hs (A_a64 w2) fun g3 w3 hs => ?_
  refine ⟨fun a w' => ∃ t : Nat, a = .int .i64 t ∧ t ≤ 16 ∧ Sep w w' [wa g3 (sch l t) Bc, wa g2 (List.replicate 64 0) Bc], fun z _ => (16 - RowKit.intOf z).toNat, ⟨0, rfl, by omega, hs⟩, ?_⟩
  rintro _ w4 ⟨t, rfl, ht, hs4⟩ -
  simp only [fx, Nat.reduceAdd, forall_const]
  have hlen := JZ l t
  rw [Ai]
  refine ⟨fun h => ?_, fun h => ?_⟩
  · have h16 : t < 16 := by simp at h; omega
    obtain ⟨part, hp⟩ : ∃ part : Nat → W32, part = fun i => ((l.drop (4 * t)).take i).foldl (fun v b => v * 256 + bw b) 0 := ⟨_, rfl⟩
    have hp0 : part 0 = 0 := by rw [hp]; rfl
    have hps : ∀ i, i < 4 → part (i + 1) = part i * 256 + bw (l.getD (4 * t + i) 0) := fun i hi => by
      have hlt : i < (l.drop (4 * t)).length := by simp; omega
      rw [hp]
      simp only []
      rw [List.take_add_one, List.getElem?_eq_getElem hlt, List.foldl_append]
      simp [List.getD_eq_getElem?_getD, List.getElem?_eq_getElem (show 4 * t + i < l.length by omega)]
    have hp4 : part 4 = wd l t := by
      rw [hps 3 (by omega), hps 2 (by omega), hps 1 (by omega), hps 0 (by omega), hp0, Adt]
      rfl
    refine ⟨fun a w' => ∃ i : Nat, a = .int .i64 i ∧ i ≤ 4 ∧ Sep w w' [wa g3 ((sch l t).set t (part i)) Bc, wa g2 (List.replicate 64 0) Bc], fun z _ => (4 - RowKit.intOf z).toNat, ⟨0, rfl, by omega, ?_⟩, ?_⟩
    · have e : (sch l t).set t (part 0) = sch l t := by
        rw [hp0]
        apply List.ext_getElem?
        intro j
        by_cases hj : t = j
        · subst hj
          have := XN l t t (Nat.le_refl _)
          rw [List.getD_eq_getElem?_getD, List.getElem?_eq_getElem (by omega)] at this
          rw [List.getElem?_set_self (by omega), List.getElem?_eq_getElem (by omega)]
          simpa using this.symm
        · rw [List.getElem?_set_ne hj]
      rw [e]
      exact hs4
    rintro _ w5 ⟨i, rfl, hi, hs5⟩ -
    simp only [fx, Nat.reduceAdd, forall_const]
    rw [Ai]
    refine ⟨fun h => ?_, fun h => ?_⟩
    · have h4 : i < 4 := by simp at h; omega
      refine drH_s hs5 fun w6 hs6 _ => ?_
      have e0 : IntKind.i64.wrap (4 * (t : Int)) = ((4 * t : Nat) : Int) := by rw [wi64 (by omega) (by omega)]; omega
      have e1 : IntKind.i64.wrap (((4 * t : Nat) : Int) + (i : Int)) = ((4 * t + i : Nat) : Int) := by rw [wi64 (by omega) (by omega)]; omega
      simp only [EU, e0, e1]
      rw [ixa_w .i64 (by omega), ld_w hs6.blk (by simp; omega), AdK]
      refine ldxB (hs6.rdB hb) (by omega) ?_
      rw [wv_b, CS, ixa_w .i64 (by omega)]
      refine C2 (st_w hs6 (by simp; omega) _ fun w7 hs7 => ?_)
      rw [wi64 (by omega) (by omega)]
      refine ⟨⟨i + 1, by simp, by omega, ?_⟩, by simp [RowKit.intOf]; omega⟩
      rw [List.set_set] at hs7
      have e : ((sch l t).set t (part i)).getD t 0 = part i := by rw [List.getD_eq_getElem?_getD, List.getElem?_set_self (by omega)]; rfl
      rw [e, Mk (by omega)] at hs7
      rw [hps i h4]
      exact hs7
    · have h4 : i = 4 := by simp at h; omega
      subst h4
      rw [wi64 (by omega) (by omega)]
      rw [hp4] at hs5
      refine ⟨⟨t + 1, by simp, by omega, ?_⟩, by simp [RowKit.intOf]; omega⟩
      rw [sch, nextW, if_pos h16]
      exact hs5
  · have h16 : t = 16 := by simp at h; omega
    subst h16
    refine ⟨fun a w' => ∃ t : Nat, a = .int .i64 t ∧ 16 ≤ t ∧ t ≤ 64 ∧ Sep w w' [wa g3 (sch l t) Bc, wa g2 (List.replicate 64 0) Bc], fun z _ => (64 - RowKit.intOf z).toNat, ⟨16, rfl, by omega, by omega, hs4⟩, ?_⟩
    rintro _ w5 ⟨t, rfl, ht1, ht2, hs5⟩ -
    simp only [fx, Nat.reduceAdd, forall_const]
    have hlen := JZ l t
    rw [Ai]
    refine ⟨fun h => ?_, fun h => ?_⟩
    · have h64 : t < 64 := by simp at h; omega
      have e15 : IntKind.i64.wrap ((t : Int) - 15) = ((t - 15 : Nat) : Int) := by rw [wi64 (by omega) (by omega)]; omega
      have e2 : IntKind.i64.wrap ((t : Int) - 2) = ((t - 2 : Nat) : Int) := by rw [wi64 (by omega) (by omega)]; omega
      have e7 : IntKind.i64.wrap ((t : Int) - 7) = ((t - 7 : Nat) : Int) := by rw [wi64 (by omega) (by omega)]; omega
      have e16 : IntKind.i64.wrap ((t : Int) - 16) = ((t - 16 : Nat) : Int) := by rw [wi64 (by omega) (by omega)]; omega
      rw [e15, ixa_w .i64 (by omega), ld_w hs5.blk (by omega), e2, ixa_w .i64 (by omega), ld_w hs5.blk (by omega)]
      refine cal_i (C9 7 7 rfl (by decide)) ?_
      rintro _ _ ⟨rfl, rfl⟩
      refine cal_i (C9 18 18 rfl (by decide)) ?_
      rintro _ _ ⟨rfl, rfl⟩
      rw [CT, shr_l _ .u64 3 (by decide) (by decide), CT]
      refine cal_i (C9 17 17 rfl (by decide)) ?_
      rintro _ _ ⟨rfl, rfl⟩
      refine cal_i (C9 19 19 rfl (by decide)) ?_
      rintro _ _ ⟨rfl, rfl⟩
      rw [CT, shr_l _ .u64 10 (by decide) (by decide), CT]
      refine drH_s hs5 fun w6 hs6 _ => ?_
      simp only [EU, e7, e16]
      rw [ixa_w .i64 (by omega), ld_w hs6.blk (by omega), CS, CS, ixa_w .i64 (by omega), ld_w hs6.blk (by omega), CS, ixa_w .i64 h64]
      refine C2 (st_w hs6 (by omega) _ fun w7 hs7 => ?_)
      rw [wi64 (by omega) (by omega)]
      refine ⟨⟨t + 1, by simp, by omega, by omega, ?_⟩, by simp [RowKit.intOf]; omega⟩
      rw [sch, nextW, if_neg (by omega)]
      exact hs7
    · have h64 : t = 64 := by simp at h; omega
      subst h64
      rw [ldN_w hs5.blk hlen]
      refine stN_w hs5.p1 (by simp) hlen fun w6 hs6 => ?_
      rw [ldN_w hs6.blk hlen]
      exact hR _ _ ⟨rfl, hs6.fr0⟩
end
end Go.Fx
set_option linter.unusedVariables false
set_option linter.unusedSimpArgs false
namespace Go.Fx
def Cub (w : World) : Prop := ∃ t fr, w.heap[0]? = some (.cells (wvs GV).toArray t fr)
theorem Cub.fr {w w' : World} (h : Cub w) (hf : Fr [] w w') : Cub w' := by
  obtain ⟨t, fr, h⟩ := h
  exact ⟨t, fr, hf.blk h (by simp)⟩
section
variable {w0 w : World} {b : Value} {l : List UInt8} {h : List W32}
theorem B_a8 (a0 a1 a2 a3 a4 a5 a6 a7 : W32) (K : Value → Prop) : rdP P (Instr.build A4 #[(0, wv a0), (1, wv a1), (2, wv a2), (3, wv a3), (4, wv a4), (5, wv a5), (6, wv a6), (7, wv a7)]) w K = K (.agg (wvs [a0, a1, a2, a3, a4, a5, a6, a7]).toArray) := Dc (by kernel_rfl) K
theorem Afl (K : Value → Prop) : rdP P (Instr.build Bc #[(0, (Value.int IntKind.u32 1116352408)), (1, (Value.int IntKind.u32 1899447441)), (2, (Value.int IntKind.u32 3049323471)), (3, (Value.int IntKind.u32 3921009573)), (4, (Value.int IntKind.u32 961987163)), (5, (Value.int IntKind.u32 1508970993)), (6, (Value.int IntKind.u32 2453635748)), (7, (Value.int IntKind.u32 2870763221)), (8, (Value.int IntKind.u32 3624381080)), (9, (Value.int IntKind.u32 310598401)), (10, (Value.int IntKind.u32 607225278)), (11, (Value.int IntKind.u32 1426881987)), (12, (Value.int IntKind.u32 1925078388)), (13, (Value.int IntKind.u32 2162078206)), (14, (Value.int IntKind.u32 2614888103)), (15, (Value.int IntKind.u32 3248222580)), (16, (Value.int IntKind.u32 3835390401)), (17, (Value.int IntKind.u32 4022224774)), (18, (Value.int IntKind.u32 264347078)), (19, (Value.int IntKind.u32 604807628)), (20, (Value.int IntKind.u32 770255983)), (21, (Value.int IntKind.u32 1249150122)), (22, (Value.int IntKind.u32 1555081692)), (23, (Value.int IntKind.u32 1996064986)), (24, (Value.int IntKind.u32 2554220882)), (25, (Value.int IntKind.u32 2821834349)), (26, (Value.int IntKind.u32 2952996808)), (27, (Value.int IntKind.u32 3210313671)), (28, (Value.int IntKind.u32 3336571891)), (29, (Value.int IntKind.u32 3584528711)), (30, (Value.int IntKind.u32 113926993)), (31, (Value.int IntKind.u32 338241895)), (32, (Value.int IntKind.u32 666307205)), (33, (Value.int IntKind.u32 773529912)), (34, (Value.int IntKind.u32 1294757372)), (35, (Value.int IntKind.u32 1396182291)), (36, (Value.int IntKind.u32 1695183700)), (37, (Value.int IntKind.u32 1986661051)), (38, (Value.int IntKind.u32 2177026350)), (39, (Value.int IntKind.u32 2456956037)), (40, (Value.int IntKind.u32 2730485921)), (41, (Value.int IntKind.u32 2820302411)), (42, (Value.int IntKind.u32 3259730800)), (43, (Value.int IntKind.u32 3345764771)), (44, (Value.int IntKind.u32 3516065817)), (45, (Value.int IntKind.u32 3600352804)), (46, (Value.int IntKind.u32 4094571909)), (47, (Value.int IntKind.u32 275423344)), (48, (Value.int IntKind.u32 430227734)), (49, (Value.int IntKind.u32 506948616)), (50, (Value.int IntKind.u32 659060556)), (51, (Value.int IntKind.u32 883997877)), (52, (Value.int IntKind.u32 958139571)), (53, (Value.int IntKind.u32 1322822218)), (54, (Value.int IntKind.u32 1537002063)), (55, (Value.int IntKind.u32 1747873779)), (56, (Value.int IntKind.u32 1955562222)), (57, (Value.int IntKind.u32 2024104815)), (58, (Value.int IntKind.u32 2227730452)), (59, (Value.int IntKind.u32 2361852424)), (60, (Value.int IntKind.u32 2428436474)), (61, (Value.int IntKind.u32 2756734187)), (62, (Value.int IntKind.u32 3204031479)), (63, (Value.int IntKind.u32 3329325298))]) w K = K (.agg (wvs GV).toArray) := Dc (by kernel_rfl) K
theorem Vq : cal P GG [] w fun r w' => r = .agg (wvs GV).toArray ∧ Fr [] w w' := by
  refine Ri fun R hR => ?_
  unfold JJ
  refine Ax (Sep.start w) (A_a64 w) fun g w1 hs => ?_
  rw [Afl]
  refine stN_w hs (by simp) rfl fun w2 hs => ?_
  rw [ldN_w (n := 64) hs.blk rfl]
  exact hR _ _ ⟨rfl, hs.fr0⟩
def hz (h v : List W32) (i : Nat) : List W32 := (List.zipWith (· + ·) h v).take i ++ h.drop i
theorem Abb (h v : List W32) : hz h v 0 = h := by simp [hz]
theorem Aea {h v : List W32} (hh : h.length = 8) (hv : v.length = 8) {i : Nat} (hi : i ≤ 8) : (hz h v i).length = 8 := by simp [hz, hh, hv]; omega
theorem AdU {h v : List W32} (hh : h.length = 8) (hv : v.length = 8) {i : Nat} (hi : i < 8) : (hz h v i).getD i 0 = h.getD i 0 := by
  have hl : ((List.zipWith (· + ·) h v).take i).length = i := by simp [hh, hv]; omega
  rw [List.getD_eq_getElem?_getD, hz, List.getElem?_append_right (by omega), hl, Nat.sub_self, List.getElem?_drop, Nat.add_zero, List.getD_eq_getElem?_getD]
theorem Aa9 {h v : List W32} (hh : h.length = 8) (hv : v.length = 8) {i : Nat} (hi : i < 8) : (hz h v i).set i (h.getD i 0 + v.getD i 0) = hz h v (i + 1) := by
  have hl : ((List.zipWith (· + ·) h v).take i).length = i := by simp [hh, hv]; omega
  have hzl : (List.zipWith (· + ·) h v).length = 8 := by simp [hh, hv]
  unfold hz
  rw [List.set_append_right _ _ (by omega), hl, Nat.sub_self, List.drop_eq_getElem_cons (show i < h.length by omega), List.set_cons_zero, List.take_add_one, List.getElem?_eq_getElem (show i < (List.zipWith (· + ·) h v).length by omega)]
  simp [List.getD_eq_getElem?_getD, List.getElem?_eq_getElem (show i < h.length by omega), List.getElem?_eq_getElem (show i < v.length by omega)]
theorem AdW {h v : List W32} (hh : h.length = 8) (hv : v.length = 8) : hz h v 8 = List.zipWith (· + ·) h v := by
  unfold hz
  rw [List.take_of_length_le (by simp [hh, hv]), List.drop_of_length_le (by omega), List.append_nil]
theorem Uk (hc : Cub w) (hb : RdB w.heap b l) (hl : l.length = 64) (hh : h.length = 8) : cal P ID [.agg (wvs h).toArray, b] w fun r w' => r = .agg (wvs (mixM h l)).toArray ∧ Fr [] w w' := by
  refine Z6 fun R hR => ?_
  unfold R6
  refine bx_s (Sep.start w) fun g2 w1 hs => ?_
  simp only [Value.cells] at hs
  refine Ax hs (A_a8 w1) fun g4 w2 hs => ?_
  rw [ldN_w (Sep.p1 hs).blk hh]
  refine Ax hs (A_a8 w2) fun g5 w3 hs => ?_
  refine stN_w hs (by simp) hh fun w4 hs => ?_
  refine cal_i (XA (hs.rdB hb) hl) ?_
  rintro _ w5 ⟨rfl, hf5⟩
  replace hs := hs.old hf5
  have hsl := JZ l 64
  refine ⟨fun a w' => ∃ t : Nat, a = .int .i64 t ∧ t ≤ 64 ∧ Sep w w' [wa g5 (rns l h t) A4, wa g4 (List.replicate 8 0) A4, wa g2 h A4], fun z _ => (64 - RowKit.intOf z).toNat, ⟨0, rfl, by omega, hs⟩, ?_⟩
  rintro _ w6 ⟨t, rfl, ht, hs6⟩ -
  simp only [fx, Nat.reduceAdd, forall_const]
  have hvl := Vm l hh t
  rw [Ai]
  refine ⟨fun hlt => ?_, fun hlt => ?_⟩
  · have h64 : t < 64 := by simp at hlt; omega
    rw [ixv_w .i64 hsl h64]
    refine drw_s hs6 fun w7 hs7 _ => ?_
    generalize hv : rns l h t = v at *
    have i0 : ∀ K, ixa 8 1 (.pointer (some ⟨g5, 0, none⟩)) (.int .i64 0) K = K (.pointer (some ⟨g5, 0, none⟩)) := fun K => ixa_l .i64 0 (by decide) (by decide) K
    have i1 : ∀ K, ixa 8 1 (.pointer (some ⟨g5, 0, none⟩)) (.int .i64 1) K = K (.pointer (some ⟨g5, 1, none⟩)) := fun K => ixa_l .i64 1 (by decide) (by decide) K
    have i2 : ∀ K, ixa 8 1 (.pointer (some ⟨g5, 0, none⟩)) (.int .i64 2) K = K (.pointer (some ⟨g5, 2, none⟩)) := fun K => ixa_l .i64 2 (by decide) (by decide) K
    have i3 : ∀ K, ixa 8 1 (.pointer (some ⟨g5, 0, none⟩)) (.int .i64 3) K = K (.pointer (some ⟨g5, 3, none⟩)) := fun K => ixa_l .i64 3 (by decide) (by decide) K
    have i4 : ∀ K, ixa 8 1 (.pointer (some ⟨g5, 0, none⟩)) (.int .i64 4) K = K (.pointer (some ⟨g5, 4, none⟩)) := fun K => ixa_l .i64 4 (by decide) (by decide) K
    have i5 : ∀ K, ixa 8 1 (.pointer (some ⟨g5, 0, none⟩)) (.int .i64 5) K = K (.pointer (some ⟨g5, 5, none⟩)) := fun K => ixa_l .i64 5 (by decide) (by decide) K
    have i6 : ∀ K, ixa 8 1 (.pointer (some ⟨g5, 0, none⟩)) (.int .i64 6) K = K (.pointer (some ⟨g5, 6, none⟩)) := fun K => ixa_l .i64 6 (by decide) (by decide) K
    have i7 : ∀ K, ixa 8 1 (.pointer (some ⟨g5, 0, none⟩)) (.int .i64 7) K = K (.pointer (some ⟨g5, 7, none⟩)) := fun K => ixa_l .i64 7 (by decide) (by decide) K
    rw [i0, ld_w hs7.blk (by omega), i4, ld_w hs7.blk (by omega)]
    refine cal_i (EJ (-6) 6 (by decide) (by decide)) ?_
    rintro _ _ ⟨rfl, rfl⟩
    refine cal_i (EJ (-11) 11 (by decide) (by decide)) ?_
    rintro _ _ ⟨rfl, rfl⟩
    rw [CT]
    refine cal_i (EJ (-25) 25 (by decide) (by decide)) ?_
    rintro _ _ ⟨rfl, rfl⟩
    rw [CT]
    refine drw_s hs7 fun w8 hs8 _ => ?_
    obtain ⟨tc, fc, hcub⟩ := hc.fr hs8.fr0
    rw [i7, ld_w hs8.blk (by omega), CS, i5, ld_w hs8.blk (by omega), KC, AdO, i6, ld_w hs8.blk (by omega), KC, CT, CS, ixa_w .i64 h64, ld_w hcub (by show t < 64; omega), CS, CS]
    refine cal_i (EJ (-2) 2 (by decide) (by decide)) ?_
    rintro _ _ ⟨rfl, rfl⟩
    refine cal_i (EJ (-13) 13 (by decide) (by decide)) ?_
    rintro _ _ ⟨rfl, rfl⟩
    rw [CT]
    refine cal_i (EJ (-22) 22 (by decide) (by decide)) ?_
    rintro _ _ ⟨rfl, rfl⟩
    have hld : ∀ i, i < 8 → ∀ K, ld1 (.pointer (some ⟨g5, i, none⟩)) w8.heap K = K (wv (v.getD i 0)) := fun i hi K => ld_w hs8.blk (by omega) K
    rw [CT, i1, hld 1 (by decide), KC, i2, hld 2 (by decide), KC, CT, i1, hld 1 (by decide), i2, hld 2 (by decide), KC, CT, CS, CS, i1, hld 1 (by decide), i2, hld 2 (by decide), i3, hld 3 (by decide), CS, i5, hld 5 (by decide), i6, hld 6 (by decide), B_a8]
    refine stN_w hs8 (by omega) rfl fun w9 hs9 => ?_
    rw [wi64 (by omega) (by omega)]
    refine ⟨⟨t + 1, by simp, by omega, ?_⟩, by simp [RowKit.intOf]; omega⟩
    rw [rns, hv]
    exact hs9
  · have h64 : t = 64 := by simp at hlt; omega
    subst h64
    generalize hv : rns l h 64 = v at *
    refine ⟨fun a w' => ∃ i : Nat, a = .int .i64 i ∧ i ≤ 8 ∧ Sep w w' [wa g2 (hz h v i) A4, wa g5 v A4, wa g4 (List.replicate 8 0) A4], fun z _ => (8 - RowKit.intOf z).toNat, ⟨0, rfl, by omega, by rw [Abb]; exact hs6.p2⟩, ?_⟩
    rintro _ w7 ⟨i, rfl, hi, hs7⟩ -
    simp only [fx, Nat.reduceAdd, forall_const]
    have hzl := Aea hh hvl hi
    rw [Ai]
    refine ⟨fun hlt => ?_, fun hlt => ?_⟩
    · have h8 : i < 8 := by simp at hlt; omega
      refine drH_s hs7 fun w8 hs8 _ => ?_
      simp only [EU]
      rw [ixa_w .i64 h8, ld_w hs8.blk (by omega), ixa_w .i64 h8, ld_w (Sep.p1 hs8).blk (by omega), CS, ixa_w .i64 h8, AdU hh hvl h8]
      refine C2 (st_w hs8 (by omega) _ fun w9 hs9 => ?_)
      rw [wi64 (by omega) (by omega)]
      rw [Aa9 hh hvl h8] at hs9
      exact ⟨⟨i + 1, by simp, by omega, hs9⟩, by simp [RowKit.intOf]; omega⟩
    · have h8 : i = 8 := by simp at hlt; omega
      subst h8
      rw [ldN_w hs7.blk hzl]
      refine stN_w hs7.p2 (by simp) hzl fun w8 hs8 => ?_
      rw [ldN_w hs8.blk hzl]
      refine hR _ _ ⟨?_, hs8.fr0⟩
      rw [AdW hh hvl, mixM, hv]
theorem Ad2 (hb : RdB w.heap b l) (hl : l.length = 64) (hh : h.length = 8) : cal P Kr [.agg (wvs h).toArray, b] w fun r w' => r = .agg (wvs (mixM h l)).toArray ∧ Fr [] w w' := by
  refine Zv fun R hR => ?_
  unfold Po
  refine bx_s (Sep.start w) fun g2 w1 hs => ?_
  simp only [Value.cells] at hs
  refine Ax hs (A_a8 w1) fun g4 w2 hs => ?_
  refine cal_i (Ab3 (hs.rdB hb) hl) ?_
  rintro _ w3 ⟨rfl, hf3⟩
  replace hs := hs.old hf3
  have hsl := JZ l 64
  refine Ax hs (A_a64 w3) fun g5 w4 hs => ?_
  refine stN_w hs (by simp) hsl fun w5 hs => ?_
  refine cal_i Vq ?_
  rintro _ w6 ⟨rfl, hf6⟩
  replace hs := hs.old hf6
  refine Ax hs (A_a64 w6) fun g6 w7 hs => ?_
  refine stN_w hs (by simp) rfl fun w8 hs => ?_
  rw [ldN_w (Sep.p3 hs).blk hh]
  refine Ax hs (A_a8 w8) fun g7 w9 hs => ?_
  refine stN_w hs (by simp) hh fun w10 hs => ?_
  refine ⟨fun a w' => ∃ t : Nat, a = .int .i64 t ∧ t ≤ 64 ∧ Sep w w' [wa g7 (rns l h t) A4, wa g6 GV Bc, wa g5 (sch l 64) Bc, wa g4 (List.replicate 8 0) A4, wa g2 h A4], fun z _ => (64 - RowKit.intOf z).toNat, ⟨0, rfl, by omega, hs⟩, ?_⟩
  rintro _ w11 ⟨t, rfl, ht, hs6⟩ -
  simp only [fx, Nat.reduceAdd, forall_const]
  have hvl := Vm l hh t
  have hcl : GV.length = 64 := rfl
  rw [Ai]
  refine ⟨fun hlt => ?_, fun hlt => ?_⟩
  · have h64 : t < 64 := by simp at hlt; omega
    generalize hv : rns l h t = v at *
    have i0 : ∀ K, ixa 8 1 (.pointer (some ⟨g7, 0, none⟩)) (.int .i64 0) K = K (.pointer (some ⟨g7, 0, none⟩)) := fun K => ixa_l .i64 0 (by decide) (by decide) K
    have i1 : ∀ K, ixa 8 1 (.pointer (some ⟨g7, 0, none⟩)) (.int .i64 1) K = K (.pointer (some ⟨g7, 1, none⟩)) := fun K => ixa_l .i64 1 (by decide) (by decide) K
    have i2 : ∀ K, ixa 8 1 (.pointer (some ⟨g7, 0, none⟩)) (.int .i64 2) K = K (.pointer (some ⟨g7, 2, none⟩)) := fun K => ixa_l .i64 2 (by decide) (by decide) K
    have i3 : ∀ K, ixa 8 1 (.pointer (some ⟨g7, 0, none⟩)) (.int .i64 3) K = K (.pointer (some ⟨g7, 3, none⟩)) := fun K => ixa_l .i64 3 (by decide) (by decide) K
    have i4 : ∀ K, ixa 8 1 (.pointer (some ⟨g7, 0, none⟩)) (.int .i64 4) K = K (.pointer (some ⟨g7, 4, none⟩)) := fun K => ixa_l .i64 4 (by decide) (by decide) K
    have i5 : ∀ K, ixa 8 1 (.pointer (some ⟨g7, 0, none⟩)) (.int .i64 5) K = K (.pointer (some ⟨g7, 5, none⟩)) := fun K => ixa_l .i64 5 (by decide) (by decide) K
    have i6 : ∀ K, ixa 8 1 (.pointer (some ⟨g7, 0, none⟩)) (.int .i64 6) K = K (.pointer (some ⟨g7, 6, none⟩)) := fun K => ixa_l .i64 6 (by decide) (by decide) K
    have i7 : ∀ K, ixa 8 1 (.pointer (some ⟨g7, 0, none⟩)) (.int .i64 7) K = K (.pointer (some ⟨g7, 7, none⟩)) := fun K => ixa_l .i64 7 (by decide) (by decide) K
    rw [i4, ld_w hs6.blk (by omega), i0, ld_w hs6.blk (by omega)]
    refine drH_s hs6 fun w12 hs7 _ => ?_
    have hld : ∀ i, i < 8 → ∀ K, ld1 (.pointer (some ⟨g7, i, none⟩)) w12.heap K = K (wv (v.getD i 0)) := fun i hi K => ld_w hs7.blk (by omega) K
    simp only [EU, Abr, i7, i5, i6, hld 7 (by decide), hld 5 (by decide), hld 6 (by decide), KC, AdO, CT]
    rw [ixa_w .i64 h64, ld_w (Sep.p1 hs7).blk (by omega), ixa_w .i64 h64, ld_w (Sep.p2 hs7).blk (by omega)]
    refine efS_i (cal_i (C9 6 6 rfl (by decide)) ?_)
    rintro _ _ ⟨rfl, rfl⟩
    refine ⟨rfl, efS_i (cal_i (C9 11 11 rfl (by decide)) ?_)⟩
    rintro _ _ ⟨rfl, rfl⟩
    rw [CT]
    refine ⟨rfl, efS_i (cal_i (C9 25 25 rfl (by decide)) ?_)⟩
    rintro _ _ ⟨rfl, rfl⟩
    rw [CT, CS, CS, CS, CS]
    refine ⟨rfl, drH_s hs7 fun w13 hs8 _ => ?_⟩
    have hld : ∀ i, i < 8 → ∀ K, ld1 (.pointer (some ⟨g7, i, none⟩)) w13.heap K = K (wv (v.getD i 0)) := fun i hi K => ld_w hs8.blk (by omega) K
    simp only [EU, i1, i2, hld 1 (by decide), hld 2 (by decide), KC, CT]
    refine efS_i (cal_i (C9 2 2 rfl (by decide)) ?_)
    rintro _ _ ⟨rfl, rfl⟩
    refine ⟨rfl, efS_i (cal_i (C9 13 13 rfl (by decide)) ?_)⟩
    rintro _ _ ⟨rfl, rfl⟩
    rw [CT]
    refine ⟨rfl, efS_i (cal_i (C9 22 22 rfl (by decide)) ?_)⟩
    rintro _ _ ⟨rfl, rfl⟩
    refine ⟨rfl, ?_⟩
    simp only [CT, CS, i0, i3, i4, hld 0 (by decide), hld 1 (by decide), hld 2 (by decide), hld 3 (by decide), hld 4 (by decide), hld 5 (by decide), hld 6 (by decide), B_a8]
    refine stN_w hs8 (by omega) rfl fun w14 hs9 => ?_
    rw [wi64 (by omega) (by omega)]
    refine ⟨⟨t + 1, by simp, by omega, ?_⟩, by simp [RowKit.intOf]; omega⟩
    rw [rns, hv]
    exact hs9
  · have h64 : t = 64 := by simp at hlt; omega
    subst h64
    generalize hv : rns l h 64 = v at *
    refine ⟨fun a w' => ∃ i : Nat, a = .int .i64 i ∧ i ≤ 8 ∧ Sep w w' [wa g2 (hz h v i) A4, wa g7 v A4, wa g4 (List.replicate 8 0) A4], fun z _ => (8 - RowKit.intOf z).toNat, ⟨0, rfl, by omega, by rw [Abb]; exact hs6.d1.d1.p2⟩, ?_⟩
    rintro _ w12 ⟨i, rfl, hi, hs7⟩ -
    simp only [fx, Nat.reduceAdd, forall_const]
    have hzl := Aea hh hvl hi
    rw [Ai]
    refine ⟨fun hlt => ?_, fun hlt => ?_⟩
    · have h8 : i < 8 := by simp at hlt; omega
      refine drH_s hs7 fun w13 hs8 _ => ?_
      simp only [EU]
      rw [ixa_w .i64 h8, ld_w hs8.blk (by omega), ixa_w .i64 h8, ld_w (Sep.p1 hs8).blk (by omega), CS, ixa_w .i64 h8, AdU hh hvl h8]
      refine C2 (st_w hs8 (by omega) _ fun w14 hs9 => ?_)
      rw [wi64 (by omega) (by omega)]
      rw [Aa9 hh hvl h8] at hs9
      exact ⟨⟨i + 1, by simp, by omega, hs9⟩, by simp [RowKit.intOf]; omega⟩
    · have h8 : i = 8 := by simp at hlt; omega
      subst h8
      rw [ldN_w hs7.blk hzl]
      refine stN_w hs7.p2 (by simp) hzl fun w13 hs8 => ?_
      rw [ldN_w hs8.blk hzl]
      refine hR _ _ ⟨?_, hs8.fr0⟩
      rw [AdW hh hvl, mixM, hv]
end
end Go.Fx
set_option linter.unusedVariables false
set_option linter.unusedSimpArgs false
namespace Go.Fx
section
variable {w0 w : World} {b s : Value} {l m : List UInt8} {h : List W32} {As : List Asn}
theorem AeE (v i : Nat) (hi : i < 8) (hv : v < 18446744073709551616) : cvi .u8 (.int .u64 ((v / 256 ^ (7 - i) : Nat) : Int)) = fun K => K (bv (UInt8.ofNat (v / 256 ^ (7 - i)))) := by
  funext K
  rw [FH, bv_of _ (Int.natCast_nonneg _), Int.toNat_natCast]
theorem AdF (v : Nat) : ∀ n i, i < n → (be n v)[i]? = some (UInt8.ofNat (v / 256 ^ (n - 1 - i)))
  | n + 1, 0, _ => by rw [Mv]; simp
  | n + 1, i + 1, h => by
    rw [Mv, List.getElem?_cons_succ, AdF v n i (by omega)]
    congr 4
    omega
theorem Abc (v n i : Nat) (hi : i < n) : (be n v).take (i + 1) = (be n v).take i ++ [UInt8.ofNat (v / 256 ^ (n - 1 - i))] := by
  rw [List.take_add_one, AdF v n i hi]
  rfl
theorem shr56 (v i : Nat) (hi : i < 8) (K : Value → Prop) : sh .shr (.int .u64 (v : Int)) (.int .u64 ((56 - 8 * i : Nat) : Int)) K = K (.int .u64 ((v / 256 ^ (7 - i) : Nat) : Int)) := by
  rw [T9 _ _ _ _ _ (by omega)]
  have h1 : min (((56 - 8 * i : Nat) : Int)).toNat IntKind.u64.bits = 8 * (7 - i) := by show min _ 64 = _; omega
  have h2 : (2 : Int) ^ (8 * (7 - i)) = ((256 ^ (7 - i) : Nat) : Int) := by
    rw [Int.pow_mul]
    simp
  rw [h1, h2, Int.ofNat_fdiv]
theorem Aa1 (hb : RdB w.heap b l) (hl : l.length ≤ 100000) : cal P Ij [b] w fun r w' => Sep w w' [ownB r (padT l l.length)] := by
  refine Vd fun R hR => ?_
  unfold Mt
  refine Ga Ew Dd (by simp) (Sep.start w).nil hb (by simp; omega) fun v1 w1 hs1 => ?_
  rw [List.nil_append] at hs1
  refine app0 128 (.inr rfl) hs1 (by omega) fun v2 w2 hs2 => ?_
  rw [if_neg (by decide)] at hs2
  refine ⟨fun a w' => ∃ j : Nat, j ≤ zer (l.length + 1) ∧ Sep w w' [ownB a (l ++ [128] ++ List.replicate j 0)], fun a _ => match a with
    | .slice _ n _ => (l.length + 1 + zer (l.length + 1)) - n
    | _ => 0, ⟨0, by omega, by simpa using hs2⟩, ?_⟩
  rintro v3 w3 ⟨j, hj, hs3⟩ -
  have hz := Yv (l.length + 1)
  obtain ⟨a3, c3, rfl⟩ := Sep.sl hs3
  have hlen : (l ++ [128] ++ List.replicate j 0).length = l.length + 1 + j := by simp; omega
  simp only [Gw, hlen]
  rw [KE .i64 _ _ _ (by decide), show (64 : Int) = ((64 : Nat) : Int) from rfl, tmodn, J7, Ai]
  refine ⟨fun h => ?_, fun h => ?_⟩
  · have h56 : (l.length + 1 + j) % 64 ≠ 56 := by simp at h; omega
    have hjz : j < zer (l.length + 1) := by
      rcases Nat.lt_or_ge j (zer (l.length + 1)) with h' | h'
      · exact h'
      · have : j = zer (l.length + 1) := by omega
        rw [this, Yg] at h56
        exact absurd rfl h56
    rw [← hlen]
    refine app0 0 (.inl rfl) hs3 (by rw [hlen]; omega) fun v4 w4 hs4 => ?_
    rw [if_pos rfl] at hs4
    have e : l ++ [128] ++ List.replicate j 0 ++ [0] = l ++ [128] ++ List.replicate (j + 1) 0 := by rw [List.replicate_succ', List.append_assoc]
    rw [e] at hs4
    obtain ⟨a4, c4, rfl⟩ := Sep.sl hs4
    refine ⟨⟨j + 1, by omega, hs4⟩, ?_⟩
    simp
    omega
  · have h56 : (l.length + 1 + j) % 64 = 56 := by simp at h; omega
    have hjz : j = zer (l.length + 1) := by
      rcases Nat.lt_or_ge j (zer (l.length + 1)) with h' | h'
      · exact absurd h56 (Adp h')
      · omega
    rw [← hlen, hb.len]
    rw [FH, wu64n, Nat.mod_eq_of_lt (by omega), Qc, show ((l.length : Int) * 8) = ((l.length * 8 : Nat) : Int) by simp, wu64n]
    generalize hv : l.length * 8 % 18446744073709551616 = v
    have hvb : v < 18446744073709551616 := by omega
    have hv8 : be 8 (l.length * 8 % 18446744073709551616) = be 8 v := by rw [hv]
    refine ⟨fun a c w' => ∃ i : Nat, c = .int .i64 i ∧ i ≤ 8 ∧ Sep w w' [ownB a (l ++ [128] ++ List.replicate j 0 ++ (be 8 v).take i)], fun _ c _ => (8 - RowKit.intOf c).toNat, ⟨0, rfl, by omega, by simpa using hs3⟩, ?_⟩
    rintro v5 _ w5 ⟨i, rfl, hi, hs5⟩ -
    simp only [fx, Nat.reduceAdd, forall_const]
    rw [Ai]
    refine ⟨fun h => ?_, fun h => ?_⟩
    · have h8 : i < 8 := by simp at h; omega
      have e1 : IntKind.u64.wrap (IntKind.i64.wrap (56 - IntKind.i64.wrap (8 * (i : Int)))) = ((56 - 8 * i : Nat) : Int) := by
        rw [wi64 (x := 8 * (i : Int)) (by omega) (by omega), wi64 (by omega) (by omega), wu64i (by omega) (by omega)]
        omega
      rw [e1, shr56 v i h8, AeE v i h8 hvb]
      refine app1 hs5 (by simp [BY]; omega) fun v6 w6 hs6 => ?_
      rw [wi64 (by omega) (by omega)]
      rw [List.append_assoc, ← Abc v 8 i h8] at hs6
      exact ⟨⟨i + 1, by simp, by omega, hs6⟩, by simp [RowKit.intOf]; omega⟩
    · have h8 : i = 8 := by simp at h; omega
      subst h8
      rw [List.take_of_length_le (by rw [BY]; omega)] at hs5
      refine hR _ _ ?_
      rw [padT, hv8, ← hjz]
      exact hs5
end
end Go.Fx
set_option linter.unusedVariables false
set_option linter.unusedSimpArgs false
namespace Go.Fx
theorem XV {h : List W32} {i : Nat} (hi : i < 4 * h.length) : (h.flatMap wOut)[i]? = some (UInt8.ofNat ((h.getD (i / 4) 0) >>> (24 - 8 * (i % 4))).toNat) := by
  induction h generalizing i with
  | nil => simp at hi
  | cons x h ih =>
    rw [List.flatMap_cons]
    by_cases h4 : i < 4
    · rw [List.getElem?_append_left (by simp [wOut]; omega)]
      have : i = 0 ∨ i = 1 ∨ i = 2 ∨ i = 3 := by omega
      rcases this with rfl | rfl | rfl | rfl <;> simp [wOut]
    · have hl : (wOut x).length = 4 := rfl
      rw [List.getElem?_append_right (by omega), hl, ih (by simp at hi; omega)]
      have e1 : i / 4 = (i - 4) / 4 + 1 := by omega
      have e2 : (i - 4) % 4 = i % 4 := by omega
      rw [e1, e2]
      rfl
section
variable {w0 w : World} {b : Value} {l : List UInt8} {As : List Asn}
theorem Aba (K : Value → Prop) : rdP P (Instr.build A4 #[(0, (Value.int IntKind.u32 1779033703)), (1, (Value.int IntKind.u32 3144134277)), (2, (Value.int IntKind.u32 1013904242)), (3, (Value.int IntKind.u32 2773480762)), (4, (Value.int IntKind.u32 1359893119)), (5, (Value.int IntKind.u32 2600822924)), (6, (Value.int IntKind.u32 528734635)), (7, (Value.int IntKind.u32 1541459225))]) w K = K (.agg (wvs FY).toArray) := Dc (by kernel_rfl) K
theorem AdJ (hb : RdB w.heap b l) (hl : l.length ≤ 100000) : cal P LO [b] w fun r w' => r = .agg (Rdr.cells (rVec 32) (shaM l)).toArray ∧ Fr [] w w' := by
  refine AaI fun R hR => ?_
  unfold Rx
  refine Ax (Sep.start w) (AP w) fun g2 w1 hs => ?_
  refine cal_i (Aa1 (hs.rdB hb) hl) ?_
  rintro v9 w2 hs2
  replace hs2 := hs.join hs2
  rw [Aba]
  refine Ax hs2 (A_a8 w2) fun g4 w3 hs3 => ?_
  refine stN_w hs3 (by simp) rfl fun w4 hs4 => ?_
  obtain ⟨a9, c9, rfl, hc9⟩ := Sep.form hs4.p1
  have hmod := Zg l l.length
  generalize hpad : padT l l.length = pad at *
  have hlp : pad.length ≤ 200000 := by
    have := Yv (l.length + 1)
    rw [← hpad, padT]
    simp [BY]
    omega
  refine ⟨fun a w' => ∃ (i : Nat) (h : List W32), a = .int .i64 i ∧ i ≤ pad.length ∧ i % 64 = 0 ∧ h.length = 8 ∧ foldM FY pad = foldM h (pad.drop i) ∧ Sep w w' [wa g4 h A4, ownB (.slice a9 pad.length c9) pad, blk g2 (Rdr.cells (rVec 32) (vz 32)).toArray Aa],
    fun z _ => (pad.length - RowKit.intOf z).toNat, ⟨0, FY, rfl, by omega, rfl, rfl, rfl, hs4⟩, ?_⟩
  rintro _ w5 ⟨i, h, rfl, hi, him, hh, hfold, hs5⟩ -
  simp only [fx, Nat.reduceAdd, forall_const]
  rw [Ai]
  refine ⟨fun hlt => ?_, fun hlt => ?_⟩
  · have hlt : i < pad.length := by simp at hlt; omega
    have h64 : i + 64 ≤ pad.length := by omega
    refine drH_s hs5 fun w6 hs6 _ => ?_
    have e : IntKind.i64.wrap ((i : Int) + 64) = ((i + 64 : Nat) : Int) := by rw [wi64 (by omega) (by omega)]; omega
    simp only [ME, e]
    rw [ldN_w hs6.blk hh, AfC (by omega) (by omega), Nat.add_sub_cancel_left]
    have hrd := (((Sep.p1 hs6).rd).drop (k := i) (by omega) hc9 (c9 - i)).take (k := 64) (by omega) (c9 - i)
    refine Br (cal_i (Ad2 hrd (by simp; omega) hh) ?_)
    rintro _ w7 ⟨rfl, hf7⟩
    have hs7 := hs6.old hf7
    have hml := M3 ((pad.drop i).take 64) hh
    refine A3 (stN_w hs7 hh hml fun w8 hs8 => ?_)
    refine ⟨⟨i + 64, _, rfl, by omega, by omega, hml, ?_, hs8⟩, by simp [RowKit.intOf]; omega⟩
    rw [hfold, Fg (by simp; omega), List.drop_drop]
  · have hge : i = pad.length := by simp at hlt; omega
    subst hge
    rw [List.drop_length, Ge (h := h) (l := []) (by simp)] at hfold
    have hsha : shaL l = h := by rw [shaL, hpad, hfold]
    obtain ⟨o, ho⟩ : ∃ o, o = h.flatMap wOut := ⟨_, rfl⟩
    have hol : o.length = 32 := by rw [ho, So, hh]
    refine Ax hs5 (AP w5) fun g6 w6 hs6 => ?_
    refine ⟨fun a w' => ∃ i : Nat, a = .int .i64 i ∧ i ≤ 32 ∧ Sep w w' [blk g6 (bvs (part o i)).toArray Aa, wa g4 h A4, blk g2 (Rdr.cells (rVec 32) (vz 32)).toArray Aa],
      fun z _ => (32 - RowKit.intOf z).toNat, ⟨0, rfl, by omega, ?_⟩, ?_⟩
    · have e0 : bvs (part o 0) = Rdr.cells (rVec 32) (vz 32) := by rw [We, hol]; rfl
      rw [e0]
      exact hs6.d2
    rintro _ w7 ⟨i, rfl, hi, hs7⟩ -
    simp only [fx, Nat.reduceAdd, forall_const]
    rw [Ai]
    refine ⟨fun hlt => ?_, fun hlt => ?_⟩
    · have h32 : i < 32 := by simp at hlt; omega
      rw [Yb .i64 _ _ _ (by decide), show (4 : Int) = ((4 : Nat) : Int) from rfl, tdivn, wi64 (by omega) (by omega), ixa_w .i64 (by omega), ld_w (Sep.p1 hs7).blk (by omega), KE .i64 _ _ _ (by decide), tmodn]
      have e1 : IntKind.u64.wrap (IntKind.i64.wrap (24 - IntKind.i64.wrap (8 * ((i % 4 : Nat) : Int)))) = ((24 - 8 * (i % 4) : Nat) : Int) := by
        rw [wi64 (x := 8 * ((i % 4 : Nat) : Int)) (by omega) (by omega), wi64 (by omega) (by omega), wu64i (by omega) (by omega)]
        omega
      simp only [Qc, O1, FH, e1]
      rw [TF _ _ .u64 (by omega), w_b, ixa_w .i64 h32]
      refine st_b hs7 (by rw [ho]; exact XV (by omega)) fun w8 hs8 => ?_
      rw [wi64 (by omega) (by omega)]
      exact ⟨⟨i + 1, by simp, by omega, hs8⟩, by simp [RowKit.intOf]; omega⟩
    · have h32 : i = 32 := by simp at hlt; omega
      subst h32
      have e2 : bvs (part o 32) = Rdr.cells (rVec 32) (shaM l) := by
        have hsm : (shaM l).1 = o := by rw [ho, ← hsha]; rfl
        show bvs (part o 32) = bvs (shaM l).1
        rw [hsm, ← hol, ZE]
      rw [e2] at hs7
      simp only [Ah hs7.blk]
      refine AB hs7.p2 fun w8 hs8 => ?_
      simp only [Ah hs8.blk]
      exact hR _ _ ⟨rfl, hs8.fr0⟩
end
end Go.Fx
set_option linter.unusedVariables false
set_option linter.unusedSimpArgs false
namespace Go.Fx
theorem Afi {P : Program} {t tx ty E : Nat} {w0 w : World} {As : List Asn} {n : Nat} {K : Value → World → Prop} (hT : SlT P t E 1 1) (hx : P.underlying tx = some (.int .i64)) (hs : Sep w0 w As) (h0 : 0 < n) (hn : n ≤ 1000000)
    (h : ∀ g c w', Sep w0 w' (ownB (.slice (some ⟨g, 0, none⟩) 0 c) [] :: As) → K (.slice (some ⟨g, 0, none⟩) n c) w') : efP P (Builtin.append_ #[t, tx] ty #[.slice none 0 0, .int .i64 n]) w K := by
  obtain ⟨i, z, hi, hsz, hby, hz, hzc⟩ := Np hT
  have hund := hT.und
  have hzs : z.cells.size = 1 := by rw [hzc]; exact hT.zcs
  have h48 : ¬ (281474976710656 < Builtin.nextslicecap n 0 * i.bytes) := by
    rw [hby]; have := growslice_fits (old := 0) (need := n) (bytes := 1) h0 (by omega); omega
  have hold : Cel w.drew.heap (.slice none 0 0) 1 0 [] := ⟨none, 0, rfl, rfl, .inl rfl⟩
  have holdr := hold.load (P := P)
  have hge := grownCap_ge w n 0 E
  refine ⟨.slice (some ⟨w.heap.size, 0, none⟩) n (grownCap w n 0 E), w.drew.alloc (.cells (Builtin.zeroCells z.cells n ++ Builtin.zeroCells z.cells (grownCap w n 0 E - n)) E), ?_, h _ _ _ (hs.new (((Fr.refl [] w).drew _).trans (EG _ _) (by simp) (by simp)) (B := ownB _ _) (F' := [w.heap.size]) ⟨rfl, .inr ⟨w.heap.size, 0, _, _, E, rfl, Nat.zero_le _, D1 w.drew _, ?_, by simp [bvs], rfl⟩⟩ (by simp))⟩
  · have hw : IntKind.i64.wrap (n : Int) = n := wi64 (by omega) (by omega)
    simp only [Builtin.append_, Sem.run_bind, Sem.run_pure, List.getElem?_toArray, List.getElem?_cons_zero, List.getElem?_cons_succ, run_underlying hund, Result.andThen_ok, BE hT.siz, run_underlying hx]
    have ha : Sem.run P (asIntOf (.int .i64 (n : Int))) w = .ok (.i64, (n : Int)) w := rfl
    have h1 : ¬ ((n : Int) < 0) := by omega
    have h2 : ¬ (281474976710656 < (n : Int)) := by omega
    have h3 : ¬ n = 0 := by omega
    have h4 : ¬ (9223372036854775807 < (n : Int)) := by omega
    have h48' : ¬ (281474976710656 < Builtin.nextslicecap n 0) := by rw [hby, Nat.mul_one] at h48; exact h48
    simp [asInt, ha, hw, typeInfo, hi, hby, h1, h2, h3, h4, h48', zeroValue, hz, Question.forced, holdr, newRow, grownCap]
  · simp only [Array.size_append, size_zeroCells, hzs]
    omega
theorem Agm {P : Program} {t t' e : TypeId} {w : World} {a : Option Addr} {n c : Nat} (hu : P.underlying t = some (.slice e)) (K : Value → Prop) : rdP P (Builtin.cap_ #[t] t' #[.slice a n c]) w K = K (.int .i64 c) := by
  refine Dc ?_ K
  simp [Builtin.cap_, run_underlying hu, goInt]
section
variable {w0 w : World} {b s : Value} {l m : List UInt8} {As : List Asn}
theorem Adi (n : Nat) (hn : n ≤ 1000000) : cal P Eh [.slice none 0 0, .int .i64 n] w fun r w' => Sep w w' [ownB r []] := by
  refine K5 fun R hR => ?_
  unfold GA
  have e0 : decide ((n : Int) < 0) = false := by simp
  simp only [fx, Nat.reduceAdd, forall_const, e0, Agm Dd, Int.natCast_zero, Int.sub_zero]
  rw [wi64 (x := 0) (by decide) (by decide), Int.sub_zero, wi64 (by omega) (by omega), Ai]
  refine ⟨fun h => ?_, fun h => ?_⟩
  · have h0 : 0 < n := by simp at h; omega
    rw [show (Value.int .i64 0) = .int .i64 ((0 : Nat) : Int) from rfl, P1 (Nat.le_refl 0)]
    refine Afi Ew U_int (Sep.start w) h0 hn fun g c w1 hs => ?_
    rw [P1 (Nat.zero_le _)]
    exact hR _ _ hs
  · exact hR _ _ (Sep.start w).nil
end
end Go.Fx
set_option linter.unusedVariables false
set_option linter.unusedSimpArgs false
namespace Go.Fx
section
variable {w0 w : World} {v s0 s1 : Value} {l m : List UInt8} {As : List Asn}
theorem Aam (hv : Cel w.heap v 1 2 [s0, s1]) (h0 : RdB w.heap s0 l) (h1 : RdB w.heap s1 m) (hl : l.length + m.length ≤ 1000000) : cal P DX [v] w fun r w' => Sep w w' [ownB r (l ++ m)] := by
  refine JR fun R hR => ?_
  unfold FO
  obtain ⟨a, c, hva, _⟩ := id hv
  have hlen : ∀ K, lenS v K = K (.int .i64 ((2 : Nat) : Int)) := fun K => by rw [hva, Gw]
  obtain ⟨f, hf⟩ : ∃ f : Nat → Nat, f = fun i => if i = 0 then 0 else if i = 1 then l.length else l.length + m.length := ⟨_, rfl⟩
  have hf0 : f 0 = 0 := by rw [hf]; rfl
  have hf1 : f 1 = l.length := by rw [hf]; rfl
  have hf2 : f 2 = l.length + m.length := by rw [hf]; rfl
  simp only [hlen]
  refine ⟨fun x y w' => ∃ i : Nat, x = .int .i64 (f i : Nat) ∧ y = .int .i64 i ∧ i ≤ 2 ∧ w' = w, fun _ y _ => (2 - RowKit.intOf y).toNat, ⟨0, by rw [hf0]; rfl, rfl, by omega, rfl⟩, ?_⟩
  rintro _ _ w1 ⟨i, rfl, rfl, hi, rfl⟩ -
  simp only [fx, Nat.reduceAdd, forall_const]
  rw [Ai]
  refine ⟨fun h => ?_, fun h => ?_⟩
  · have hlt : i = 0 ∨ i = 1 := by simp at h; omega
    refine ⟨fun t w' => t = .int .i64 (f (i + 1) : Nat) ∧ w' = w1, ?_, ?_⟩
    · rcases hlt with rfl | rfl
      · refine ldx hv (j := 0) (u := s0) rfl ?_
        rw [h0.len]
        simp only [fx, Nat.reduceAdd, forall_const]
        rw [hf0, hf1, wi64 (by omega) (by omega), decide_eq_false (by omega), Le]
        exact ⟨by simp, trivial⟩
      · refine ldx hv (j := 1) (u := s1) rfl ?_
        rw [h1.len]
        simp only [fx, Nat.reduceAdd, forall_const]
        rw [hf1, hf2, wi64 (by omega) (by omega), decide_eq_false (by omega), Le]
        exact ⟨by simp, trivial⟩
    · rintro _ _ ⟨rfl, rfl⟩ -
      rw [wi64 (by omega) (by omega)]
      exact ⟨⟨i + 1, rfl, by simp, by omega, rfl⟩, by simp [RowKit.intOf]; omega⟩
  · have h2 : i = 2 := by simp at h; omega
    subst h2
    rw [hf2]
    refine cal_i (Adi (l.length + m.length) hl) ?_
    rintro v2 w2 hs2
    obtain ⟨g, hg⟩ : ∃ g : Nat → List UInt8, g = fun i => if i = 0 then [] else if i = 1 then l else l ++ m := ⟨_, rfl⟩
    have hg0 : g 0 = [] := by rw [hg]; rfl
    have hg1 : g 1 = l := by rw [hg]; rfl
    have hg2 : g 2 = l ++ m := by rw [hg]; rfl
    refine ⟨fun x y w' => ∃ i : Nat, y = .int .i64 i ∧ i ≤ 2 ∧ Sep w1 w' [ownB x (g i)], fun _ y _ => (2 - RowKit.intOf y).toNat, ⟨0, rfl, by omega, by rw [hg0]; exact hs2⟩, ?_⟩
    rintro v3 _ w3 ⟨i, rfl, hi, hs3⟩ -
    simp only [fx, Nat.reduceAdd, forall_const]
    rw [Ai]
    refine ⟨fun h => ?_, fun h => ?_⟩
    · have hlt : i = 0 ∨ i = 1 := by simp at h; omega
      have hv3 : Cel w3.heap v 1 2 [s0, s1] := hv.fr hs3.fr0 (DA _)
      rcases hlt with rfl | rfl
      · refine ldx hv3 (j := 0) (u := s0) rfl ?_
        rw [hg0] at hs3
        refine Ga Ew Dd (by simp) hs3 (hs3.rdB h0) (by simp; omega) fun v4 w4 hs4 => ?_
        rw [wi64 (by omega) (by omega)]
        exact ⟨⟨1, by simp, by omega, by rw [hg1]; exact hs4⟩, by simp [RowKit.intOf]⟩
      · refine ldx hv3 (j := 1) (u := s1) rfl ?_
        rw [hg1] at hs3
        refine Ga Ew Dd (by simp) hs3 (hs3.rdB h1) (by omega) fun v4 w4 hs4 => ?_
        rw [wi64 (by omega) (by omega)]
        exact ⟨⟨2, by simp, by omega, by rw [hg2]; exact hs4⟩, by simp [RowKit.intOf]⟩
    · have h2 : i = 2 := by simp at h; omega
      subst h2
      rw [hg2] at hs3
      exact hR _ _ hs3
end
end Go.Fx
set_option linter.unusedVariables false
set_option linter.unusedSimpArgs false
namespace Go.Fx
abbrev VW (n : Nat) := {l : List W32 // l.length = n}
def rW (n : Nat) : Rdr (VW n) where
  size := n
  cells l := wvs l.1
  ok _ _ := True
  len l := by simp [wvs, l.2]
  one _ := Vc _
  fr h _ := h
abbrev Q_St := Rdr.pair (rW 8) (Rdr.pair qv (Rdr.pair (rInt .i64) rBool))
abbrev st (g : Nat) (h : VW 8) (s : Value) (n : Int) : Asn := blk g (Rdr.cells Q_St (h, s, n, true)).toArray IH
def O2 : VW 8 := ⟨FY, rfl⟩
section
variable {w0 w : World} {v b s : Value} {l r : List UInt8} {As : List Asn} {g : Nat} {h : VW 8} {n : Int}
theorem AcF : cal P Mh [] w fun r w' => r = .agg (wvs FY).toArray ∧ Fr [] w w' := by
  refine AaG fun R hR => ?_
  unfold R1
  refine Ax (Sep.start w) (A_a8 w) fun g w1 hs => ?_
  rw [Aba]
  refine stN_w hs (by simp) rfl fun w2 hs => ?_
  rw [ldN_w (n := 8) hs.blk rfl]
  exact hR _ _ ⟨rfl, hs.fr0⟩
theorem B_St (K : Value → Prop) : rdP P (Instr.build IH #[(0, .agg (wvs FY).toArray), (3, .bool true)]) w K = K (.agg (Rdr.cells Q_St (O2, .slice none 0 0, 0, true)).toArray) := Dc (by kernel_rfl) K
theorem Ae8 : cal P PK [] w fun r w' => ∃ g, r = .pointer (some ⟨g, 0, none⟩) ∧ Sep w w' [st g O2 (.slice none 0 0) 0] := by
  refine Ads fun R hR => ?_
  unfold V3
  refine cal_i AcF ?_
  rintro _ w1 ⟨rfl, hf1⟩
  rw [B_St]
  refine bx_s ((Sep.start w).old hf1) fun g w2 hs => ?_
  exact hR _ _ ⟨g, rfl, hs⟩
theorem Wt (hs : Sep w0 w (st g h s n :: As)) : cal P E6 [.pointer (some ⟨g, 0, none⟩)] w fun r w' => r = .bool false ∧ w = w' := by
  refine Ta fun R hR => ?_
  unfold Kf
  simp only [fx, Nat.reduceAdd, forall_const]
  have hb := Fld.ldB (r := Q_St) (Fld.snd (Fld.snd (Fld.snd Fld.self))) hs.blk
  refine Bi ?_
  rw [show (Value.pointer (some ⟨g, 10, none⟩)) = .pointer (some ⟨g, 8 + (1 + (1 + 0)), none⟩) from rfl]
  refine (hb _).mpr ?_
  simp only [fx, Nat.reduceAdd, forall_const]
  exact hR _ _ ⟨rfl, rfl⟩
def Rest (v : Value) (l : List UInt8) (u : Value) (m : List UInt8) : Prop := ∃ a n c, u = .slice a n c ∧ n = m.length ∧ n ≤ c ∧ ∀ z : World, RdB z.heap v l → RdB z.heap u m
theorem Rest.start {a : Option Addr} {c : Nat} (hc : l.length ≤ c) : Rest (.slice a l.length c) l (.slice a l.length c) l := ⟨a, _, c, rfl, rfl, hc, fun _ h => h⟩
theorem Rest.to {u : Value} {m : List UInt8} (hr : Rest v l u m) (h64 : 64 ≤ m.length) (K : Value → Prop) (h : ∀ x, (∀ z : World, RdB z.heap v l → RdB z.heap x (m.take 64)) → K x) : slc 1 u none (some (.int .i64 64)) K := by
  obtain ⟨a, n, c, rfl, rfl, hc, hx⟩ := hr
  have := P1 (size := 1) (n := m.length) (a := a) (k := .i64) (show 64 ≤ c by omega) K
  rw [show (Value.int .i64 64) = .int .i64 ((64 : Nat) : Int) from rfl, this]
  exact h _ fun z hz => (hx z hz).take h64 c
theorem Rest.from {u : Value} {m : List UInt8} (hr : Rest v l u m) (h64 : 64 ≤ m.length) (K : Value → Prop) (h : ∀ x, Rest v l x (m.drop 64) → K x) : slc 1 u (some (.int .i64 64)) none K := by
  obtain ⟨a, n, c, rfl, rfl, hc, hx⟩ := hr
  have := YE (size := 1) (c := c) (a := a) (k := .i64) h64 K
  rw [show (Value.int .i64 64) = .int .i64 ((64 : Nat) : Int) from rfl, this]
  exact h _ ⟨_, _, _, rfl, by simp, by omega, fun z hz => (hx z hz).drop h64 hc (c - 64)⟩
theorem Rest.len {u : Value} {m : List UInt8} (hr : Rest v l u m) (K : Value → Prop) : lenS u K = K (.int .i64 m.length) := by
  obtain ⟨a, n, c, rfl, rfl, hc, hx⟩ := hr
  exact Gw a _ c K
end
end Go.Fx
set_option linter.unusedVariables false
set_option linter.unusedSimpArgs false
namespace Go.Fx
theorem Aee {h : List W32} {m : List UInt8} (hm : m.length = 64) : foldM h m = mixM h m := by
  rw [Fg (by omega), List.take_of_length_le (by omega), List.drop_of_length_le (by omega), Ge (by simp)]
section
variable {w0 w : World} {v b s : Value} {l r : List UInt8} {As : List Asn} {g : Nat} {h : VW 8} {n : Int}
theorem ldS_h {hp : Heap} {t : TypeId} {fr : Nat × Nat} {a} (hg : hp[g]? = some (.cells (Rdr.cells Q_St a).toArray t fr)) (K : Value → Prop) : ldN 8 (.pointer (some ⟨g, 0, none⟩)) hp K = K (.agg (wvs a.1.1).toArray) := Fld.ldN (r := Q_St) (s := rW 8) (Fld.fst Fld.self) hg K
theorem ldS_s {hp : Heap} {t : TypeId} {fr : Nat × Nat} {a} (hg : hp[g]? = some (.cells (Rdr.cells Q_St a).toArray t fr)) (K : Value → Prop) : ld1 (.pointer (some ⟨g, 8, none⟩)) hp K = K a.2.1 := Fld.ld1 (r := Q_St) (Fld.snd (Fld.fst Fld.self)) hg K
theorem ldS_n {hp : Heap} {t : TypeId} {fr : Nat × Nat} {a} (hg : hp[g]? = some (.cells (Rdr.cells Q_St a).toArray t fr)) (K : Value → Prop) : ld1 (.pointer (some ⟨g, 9, none⟩)) hp K = K (.int .i64 a.2.2.1) := Fld.ldI (r := Q_St) (Fld.snd (Fld.snd (Fld.fst Fld.self))) hg K
theorem stS_h {K : World → Prop} (hs : Sep w0 w (st g h s n :: As)) {l' : List W32} (hl : l'.length = 8) (hk : ∀ w', Sep w0 w' (st g ⟨l', hl⟩ s n :: As) → K w') : stN 8 (.pointer (some ⟨g, 0, none⟩)) (.agg (wvs l').toArray) w K :=
  Fld.stN (r := Q_St) (s := rW 8) (Fld.fst Fld.self) (b := ⟨l', hl⟩) hs (Vc _) hk
theorem stS_s {K : World → Prop} (hs : Sep w0 w (st g h s n :: As)) {s' : Value} (h1 : s'.oneCell' = true) (hk : ∀ w', Sep w0 w' (st g h s' n :: As) → K w') : st1 (.pointer (some ⟨g, 8, none⟩)) s' w K :=
  Fld.stV (r := Q_St) (s := qv) (Fld.snd (Fld.fst Fld.self)) rfl hs h1 hk
theorem stS_n {K : World → Prop} (hs : Sep w0 w (st g h s n :: As)) {n' : Int} (hk : ∀ w', Sep w0 w' (st g h s n' :: As) → K w') : st1 (.pointer (some ⟨g, 9, none⟩)) (.int .i64 n') w K :=
  Fld.stV (r := Q_St) (s := rInt .i64) (Fld.snd (Fld.snd (Fld.fst Fld.self))) rfl hs rfl hk
theorem AbK (hc : Cub w0) (hs : Sep w0 w (st g O2 (.slice none 0 0) 0 :: As)) (hv : Cel w0.heap v 1 1 [b] ∨ ∃ Bs, As = own v 1 1 [b] :: Bs) (hb : RdB w0.heap b l) (hl : l.length ≤ 100000) :
    cal P GF [.pointer (some ⟨g, 0, none⟩), v] w fun _ w' => ∃ (a r : List UInt8) (h : VW 8) (s : Value), l = a ++ r ∧ a.length % 64 = 0 ∧ r.length < 64 ∧ h.1 = foldM FY a ∧ Sep w0 w' (st g h s l.length :: ownB s r :: As) := by
  refine Ro fun R hR => ?_
  unfold Ju
  refine cal_i (Wt hs) ?_
  rintro _ _ ⟨rfl, rfl⟩
  have hcel : ∀ {z : World} {x : Asn}, Sep w0 z (x :: As) → Cel z.heap v 1 1 [b] := fun {z x} hz => by
    rcases hv with hv | ⟨Bs, rfl⟩
    · exact hv.fr hz.fr0 (DA _)
    · exact Sep.cel hz.p1
  obtain ⟨a, c, hva, _⟩ := id (hcel hs)
  have hlen : ∀ K, lenS v K = K (.int .i64 ((1 : Nat) : Int)) := fun K => by rw [hva, Gw]
  simp only [fx, Nat.reduceAdd, forall_const, hlen]
  refine ⟨fun x w' => ∃ i : Nat, x = .int .i64 i ∧ i ≤ 1 ∧ (i = 0 → Sep w0 w' (st g O2 (.slice none 0 0) 0 :: As)) ∧ (i = 1 → ∃ (a r : List UInt8) (h : VW 8) (s : Value), l = a ++ r ∧ a.length % 64 = 0 ∧ r.length < 64 ∧ h.1 = foldM FY a ∧ Sep w0 w' (st g h s l.length :: ownB s r :: As)),
    fun z _ => (1 - RowKit.intOf z).toNat, ⟨0, rfl, by omega, fun _ => hs, fun h => by cases h⟩, ?_⟩
  rintro _ w1 ⟨i, rfl, hi, hi0, hi1⟩ -
  simp only [fx, Nat.reduceAdd, forall_const]
  rw [Ai]
  refine ⟨fun hlt => ?_, fun hlt => ?_⟩
  · have h0 : i = 0 := by simp at hlt; omega
    subst h0
    have hs1 := hi0 rfl
    refine ldx (hcel hs1) (j := 0) (u := b) rfl ?_
    rw [ldS_n hs1.blk, (hs1.rdB hb).len]
    simp only [fx, Nat.reduceAdd, forall_const]
    rw [wi64 (by omega) (by omega)]
    refine stS_n hs1 fun w2 hs2 => ?_
    simp only [fx, Nat.reduceAdd, forall_const, ldS_s hs2.blk]
    have hbs : ∀ (w : World), (Instr.buildSlice G4 2 #[(0, .slice none 0 0), (1, b)]).run P w = .ok (.slice (some ⟨w.heap.size, 0, none⟩) 2 2) (w.alloc (.cells ([.slice none 0 0, b] : List Value).toArray Ay)) := by
      obtain ⟨a, c, rfl, _⟩ := hb
      intro w
      kernel_rfl
    refine Mx (cs := [.slice none 0 0, b]) (size := 1) hs2 rfl (hbs _) fun g3 w3 hs3 => ?_
    refine cal_i (Aam (l := []) (m := l) (Sep.cel hs3) ⟨none, 0, rfl, rfl, .inl rfl⟩ (hs3.rdB hb) (by simp; omega)) ?_
    rintro v4 w4 hs4
    rw [List.nil_append] at hs4
    replace hs4 := (hs3.join hs4).d1.p1
    obtain ⟨a4, c4, rfl, hc4⟩ := Sep.form hs4.p1
    refine ⟨fun u w' => ∃ (k : Nat) (h : VW 8), k ≤ l.length ∧ k % 64 = 0 ∧ h.1 = foldM FY (l.take k) ∧ Rest (.slice a4 l.length c4) l u (l.drop k) ∧ Sep w0 w' (st g h (.slice none 0 0) l.length :: ownB (.slice a4 l.length c4) l :: As), fun u _ => match u with
      | .slice _ n _ => n
      | _ => 0, ⟨0, O2, by omega, rfl, by rw [List.take_zero, Ge (by simp)]; rfl, Rest.start hc4, by simpa using hs4⟩, ?_⟩
    rintro u w5 ⟨k, h5, hk, hkm, hh5, hrest, hs5⟩ -
    simp only [hrest.len, List.length_drop]
    rw [Zy, Ai]
    refine ⟨fun h => ?_, fun h => ?_⟩
    · have h64 : 64 ≤ (l.drop k).length := by simp at h ⊢; omega
      refine drH_s hs5 fun w6 hs6 _ => ?_
      simp only [fx, Nat.reduceAdd, forall_const, ME, ldS_h hs6.blk]
      refine hrest.to h64 _ fun x hx => ?_
      refine Br (cal_i (Uk (hc.fr hs6.fr0) (hx _ (Sep.rd hs6.p1)) (by rw [List.length_take]; omega) h5.2) ?_)
      rintro _ w7 ⟨rfl, hf7⟩
      have hs7 := hs6.old hf7
      refine A3 (stS_h hs7 (M3 _ h5.2) fun w8 hs8 => ?_)
      refine hrest.from h64 _ fun u' hu' => ?_
      rw [List.drop_drop] at hu'
      have hll : k + 64 ≤ l.length := by simp at h64; omega
      refine ⟨⟨k + 64, _, hll, by omega, ?_, hu', hs8⟩, ?_⟩
      · show mixM h5.1 _ = _
        rw [hh5, List.take_add, V5 (by rw [List.length_take]; omega), Aee (m := (l.drop k).take 64) (by rw [List.length_take]; omega)]
      · obtain ⟨_, n1, _, rfl, e1, _⟩ := hrest
        obtain ⟨_, n2, _, rfl, e2, _⟩ := hu'
        simp only [List.length_drop] at e1 e2
        simp only []
        omega
    · have h64 : (l.drop k).length < 64 := by simp at h ⊢; omega
      obtain ⟨_, _, _, _, _, _, hx⟩ := id hrest
      refine cal_i (LQ (hx _ (Sep.rd hs5.p1)) (by rw [List.length_drop]; omega)) ?_
      rintro v6 w6 hs6
      replace hs6 := (hs5.join hs6).p1
      refine stS_s hs6 (Sep.one hs6.p1) fun w7 hs7 => ?_
      rw [wi64 (by omega) (by omega)]
      refine ⟨⟨1, by simp, by omega, fun h => (by cases h), fun _ => ⟨l.take k, l.drop k, h5, v6, (List.take_append_drop k l).symm, by rw [List.length_take]; omega, h64, hh5, hs7.d2⟩⟩, by simp [RowKit.intOf]⟩
  · have h1 : i = 1 := by simp at hlt; omega
    exact hR _ _ (hi1 h1)
end
end Go.Fx
set_option linter.unusedVariables false
set_option linter.unusedSimpArgs false
namespace Go.Fx
section
variable {w0 w : World} {v b s : Value} {l r : List UInt8} {As : List Asn} {g : Nat} {h : VW 8} {n : Nat}
theorem AeG (hc : Cub w0) (hs : Sep w0 w (st g h s n :: ownB s r :: As)) (hr : r.length < 64) (hn : n ≤ 100000) :
    cal P HS [.pointer (some ⟨g, 0, none⟩)] w fun v w' => v = .agg (bvs ((foldM h.1 (padT r n)).flatMap wOut)).toArray ∧ Sep w0 w' (st g h s n :: ownB s r :: As) := by
  refine UO fun R hR => ?_
  unfold Ln
  refine Ax hs (AP w) fun g2 w1 hs => ?_
  refine Ax hs (AP w1) fun g3 w2 hs => ?_
  refine cal_i (Wt (Sep.p2 hs)) ?_
  rintro _ _ ⟨rfl, rfl⟩
  simp only [fx, Nat.reduceAdd, forall_const, ldS_s (Sep.p2 hs).blk]
  refine cal_i (LQ (Sep.p3 hs).rd (by omega)) ?_
  rintro v1 w3 hs1
  replace hs1 := hs.join hs1
  refine app0 128 (.inr rfl) hs1 (by omega) fun v2 w4 hs2 => ?_
  rw [if_neg (by decide)] at hs2
  obtain ⟨Bs, hBs⟩ : ∃ Bs, Bs = blk g3 (Rdr.cells (rVec 32) (vz 32)).toArray Aa :: blk g2 (Rdr.cells (rVec 32) (vz 32)).toArray Aa :: st g h s n :: ownB s r :: As := ⟨_, rfl⟩
  have hz := Yv (r.length + 1)
  have hs2' : Sep w0 w4 (ownB v2 (r ++ [128]) :: Bs) := by rw [hBs]; exact hs2
  refine ⟨fun a w' => ∃ j : Nat, j ≤ zer (r.length + 1) ∧ Sep w0 w' (ownB a (r ++ [128] ++ List.replicate j 0) :: Bs), fun a _ => match a with
    | .slice _ n _ => (r.length + 1 + zer (r.length + 1)) - n
    | _ => 0, ⟨0, by omega, by simpa using hs2'⟩, ?_⟩
  rintro v3 w5 ⟨j, hj, hs3⟩ -
  obtain ⟨a3, c3, rfl⟩ := Sep.sl hs3
  have hlen : (r ++ [128] ++ List.replicate j 0).length = r.length + 1 + j := by simp; omega
  simp only [Gw, hlen]
  rw [KE .i64 _ _ _ (by decide), show (64 : Int) = ((64 : Nat) : Int) from rfl, tmodn, J7, Ai]
  refine ⟨fun hq => ?_, fun hq => ?_⟩
  · have h56 : (r.length + 1 + j) % 64 ≠ 56 := by simp at hq; omega
    have hjz : j < zer (r.length + 1) := by
      rcases Nat.lt_or_ge j (zer (r.length + 1)) with h' | h'
      · exact h'
      · have : j = zer (r.length + 1) := by omega
        rw [this, Yg] at h56
        exact absurd rfl h56
    rw [← hlen]
    refine app0 0 (.inl rfl) hs3 (by rw [hlen]; omega) fun v4 w6 hs4 => ?_
    rw [if_pos rfl] at hs4
    have e : r ++ [128] ++ List.replicate j 0 ++ [0] = r ++ [128] ++ List.replicate (j + 1) 0 := by rw [List.replicate_succ', List.append_assoc]
    rw [e] at hs4
    obtain ⟨a4, c4, rfl⟩ := Sep.sl hs4
    refine ⟨⟨j + 1, by omega, hs4⟩, ?_⟩
    simp
    omega
  · have h56 : (r.length + 1 + j) % 64 = 56 := by simp at hq; omega
    have hjz : j = zer (r.length + 1) := by
      rcases Nat.lt_or_ge j (zer (r.length + 1)) with h' | h'
      · exact absurd h56 (Adp h')
      · omega
    rw [← hlen]
    have hst : Sep w0 w5 (st g h s n :: blk g3 (Rdr.cells (rVec 32) (vz 32)).toArray Aa :: blk g2 (Rdr.cells (rVec 32) (vz 32)).toArray Aa :: ownB s r :: As) := by
      have := hs3.tail
      rw [hBs] at this
      exact this.p2
    simp only [fx, Nat.reduceAdd, forall_const, ldS_n hst.blk]
    rw [wu64n, Nat.mod_eq_of_lt (by omega), show ((n : Int) * 8) = ((n * 8 : Nat) : Int) by simp, wu64n]
    generalize hv : n * 8 % 18446744073709551616 = x
    have hvb : x < 18446744073709551616 := by omega
    refine ⟨fun a c w' => ∃ i : Nat, c = .int .i64 i ∧ i ≤ 8 ∧ Sep w0 w' (ownB a (r ++ [128] ++ List.replicate j 0 ++ (be 8 x).take i) :: Bs), fun _ c _ => (8 - RowKit.intOf c).toNat, ⟨0, rfl, by omega, by simpa using hs3⟩, ?_⟩
    rintro v5 _ w6 ⟨i, rfl, hi, hs5⟩ -
    simp only [fx, Nat.reduceAdd, forall_const]
    rw [Ai]
    refine ⟨fun hq => ?_, fun hq => ?_⟩
    · have h8 : i < 8 := by simp at hq; omega
      have e1 : IntKind.i64.wrap (56 - IntKind.i64.wrap (8 * (i : Int))) = ((56 - 8 * i : Nat) : Int) := by
        rw [wi64 (x := 8 * (i : Int)) (by omega) (by omega), wi64 (by omega) (by omega)]
        omega
      have hsh : ∀ K, sh .shr (.int .u64 (x : Int)) (.int .i64 ((56 - 8 * i : Nat) : Int)) K = K (.int .u64 ((x / 256 ^ (7 - i) : Nat) : Int)) := fun K => by
        have := shr56 x i h8 K
        rw [T9 _ _ _ _ _ (by omega)] at this ⊢
        exact this
      rw [e1, hsh]
      rw [FH, bv_of _ (Int.natCast_nonneg _), Int.toNat_natCast]
      refine app1 hs5 (by simp [BY]; omega) fun v6 w7 hs6 => ?_
      rw [wi64 (by omega) (by omega)]
      rw [List.append_assoc, ← Abc x 8 i h8] at hs6
      exact ⟨⟨i + 1, by simp, by omega, hs6⟩, by simp [RowKit.intOf]; omega⟩
    · have h8 : i = 8 := by simp at hq; omega
      subst h8
      rw [List.take_of_length_le (by rw [BY]; omega)] at hs5
      have hpad : r ++ [128] ++ List.replicate j 0 ++ be 8 x = padT r n := by rw [padT, hv, ← hjz]
      rw [hpad] at hs5
      have hlp : (padT r n).length ≤ 200 := by
        rw [padT]
        simp [BY]
        omega
      have hmod := Zg r n
      generalize padT r n = pad at *
      have hst5 : Sep w0 w6 (st g h s n :: blk g3 (Rdr.cells (rVec 32) (vz 32)).toArray Aa :: blk g2 (Rdr.cells (rVec 32) (vz 32)).toArray Aa :: ownB s r :: As) := by
        have := hs5.tail
        rw [hBs] at this
        exact this.p2
      simp only [fx, Nat.reduceAdd, forall_const, ldS_h hst5.blk]
      refine Ax hs5 (A_a8 w6) fun g4 w7 hs6 => ?_
      refine stN_w hs6 (by simp) h.2 fun w8 hs7 => ?_
      obtain ⟨a5, c5, rfl, hc5⟩ := Sep.form (Sep.p1 hs7)
      refine ⟨fun u w' => ∃ (k : Nat) (h' : VW 8), k ≤ pad.length ∧ k % 64 = 0 ∧ foldM h.1 pad = foldM h'.1 (pad.drop k) ∧ Rest (.slice a5 pad.length c5) pad u (pad.drop k) ∧ Sep w0 w' (wa g4 h'.1 A4 :: ownB (.slice a5 pad.length c5) pad :: Bs), fun u _ => match u with
        | .slice _ n _ => n
        | _ => 0, ⟨0, h, by omega, rfl, rfl, Rest.start hc5, hs7⟩, ?_⟩
      rintro u w9 ⟨k, h', hk, hkm, hf, hrest, hs8⟩ -
      simp only [hrest.len, List.length_drop]
      rw [YL, Ai]
      refine ⟨fun hlt => ?_, fun hlt => ?_⟩
      · have h64 : 64 ≤ (pad.drop k).length := by simp at hlt ⊢; omega
        refine drH_s hs8 fun w10 hs9 _ => ?_
        simp only [fx, Nat.reduceAdd, forall_const, ME]
        rw [ldN_w hs9.blk h'.2]
        refine hrest.to h64 _ fun y hy => ?_
        refine Br (cal_i (Uk (hc.fr hs9.fr0) (hy _ (Sep.rd hs9.p1)) (by rw [List.length_take]; omega) h'.2) ?_)
        rintro _ w11 ⟨rfl, hf11⟩
        have hs10 := hs9.old hf11
        have hml := M3 ((pad.drop k).take 64) h'.2
        refine A3 (stN_w hs10 h'.2 hml fun w12 hs11 => ?_)
        refine hrest.from h64 _ fun u' hu' => ?_
        rw [List.drop_drop] at hu'
        have hll : k + 64 ≤ pad.length := by simp at h64; omega
        refine ⟨⟨k + 64, ⟨_, hml⟩, hll, by omega, ?_, hu', hs11⟩, ?_⟩
        · rw [hf, Fg h64, List.drop_drop]
        · obtain ⟨_, n1, _, rfl, e1, _⟩ := hrest
          obtain ⟨_, n2, _, rfl, e2, _⟩ := hu'
          simp only [List.length_drop] at e1 e2
          simp only []
          omega
      · have hge : k = pad.length := by simp at hlt; omega
        subst hge
        rw [List.drop_length, Ge (h := h'.1) (l := []) (by simp)] at hf
        rw [hf] at hR
        obtain ⟨o, ho⟩ : ∃ o, o = h'.1.flatMap wOut := ⟨_, rfl⟩
        have hol : o.length = 32 := by rw [ho, So, h'.2]
        rw [← ho] at hR
        rw [ldN_w hs8.blk h'.2]
        have hs9 : Sep w0 w9 (blk g3 (Rdr.cells (rVec 32) (vz 32)).toArray Aa :: blk g2 (Rdr.cells (rVec 32) (vz 32)).toArray Aa :: st g h s n :: ownB s r :: As) := by
          have := hs8.tail.tail
          rw [hBs] at this
          exact this
        have e0 : bvs (part o (4 * 0)) = Rdr.cells (rVec 32) (vz 32) := by rw [Nat.mul_zero, We, hol]; rfl
        refine ⟨fun a w' => ∃ i : Nat, a = .int .i64 i ∧ i ≤ 8 ∧ Sep w0 w' (blk g3 (bvs (part o (4 * i))).toArray Aa :: blk g2 (Rdr.cells (rVec 32) (vz 32)).toArray Aa :: st g h s n :: ownB s r :: As),
          fun z _ => (8 - RowKit.intOf z).toNat, ⟨0, rfl, by omega, by rw [e0]; exact hs9⟩, ?_⟩
        rintro _ w10 ⟨i, rfl, hi, hs10⟩ -
        simp only [fx, Nat.reduceAdd, forall_const]
        rw [Ai]
        refine ⟨fun hlt => ?_, fun hlt => ?_⟩
        · have h8 : i < 8 := by simp at hlt; omega
          have ei : IntKind.i64.wrap (4 * (i : Int)) = ((4 * i : Nat) : Int) := by rw [wi64 (by omega) (by omega)]; omega
          have e1 : IntKind.i64.wrap (((4 * i : Nat) : Int) + 1) = ((4 * i + 1 : Nat) : Int) := by rw [wi64 (by omega) (by omega)]; omega
          have e2 : IntKind.i64.wrap (((4 * i : Nat) : Int) + 2) = ((4 * i + 2 : Nat) : Int) := by rw [wi64 (by omega) (by omega)]; omega
          have e3 : IntKind.i64.wrap (((4 * i : Nat) : Int) + 3) = ((4 * i + 3 : Nat) : Int) := by rw [wi64 (by omega) (by omega)]; omega
          have hg : ∀ m : Nat, m < 4 → o[4 * i + m]? = some (UInt8.ofNat ((h'.1.getD i 0) >>> (24 - 8 * m)).toNat) := fun m hm => by
            have h8' := h'.2
            rw [ho, XV (by omega), show (4 * i + m) / 4 = i by omega, show (4 * i + m) % 4 = m by omega]
          rw [ixv_w .i64 h'.2 h8, ei, e1, e2, e3, shr_l _ .u64 24 (by decide) (by decide), w_b, shr_l _ .u64 16 (by decide) (by decide), w_b, shr_l _ .u64 8 (by decide) (by decide), w_b, w_b]
          rw [ixa_w .i64 (by omega)]
          refine st_b hs10 (hg 0 (by decide)) fun w11 hs11 => ?_
          rw [ixa_w .i64 (by omega)]
          refine st_b hs11 (hg 1 (by decide)) fun w12 hs12 => ?_
          rw [ixa_w .i64 (by omega)]
          refine st_b hs12 (hg 2 (by decide)) fun w13 hs13 => ?_
          rw [ixa_w .i64 (by omega)]
          refine st_b hs13 (hg 3 (by decide)) fun w14 hs14 => ?_
          rw [wi64 (by omega) (by omega)]
          exact ⟨⟨i + 1, by simp, by omega, hs14⟩, by simp [RowKit.intOf]; omega⟩
        · have h8 : i = 8 := by simp at hlt; omega
          subst h8
          have e2 : bvs (part o (4 * 8)) = Rdr.cells (rVec 32) ⟨o, hol⟩ := by
            rw [show 4 * 8 = o.length by omega, ZE]
            rfl
          rw [e2] at hs10
          simp only [Ah hs10.blk]
          refine AB hs10.p1 fun w15 hs15 => ?_
          simp only [Ah hs15.blk]
          exact hR _ _ ⟨rfl, hs15.d1.tail⟩
theorem AaV (hc : Cub w) (hb : RdB w.heap b l) (hl : l.length ≤ 100000) : cal P Qa [b] w fun v w' => v = .agg (Rdr.cells (rVec 32) (shaM l)).toArray ∧ Fr [] w w' := by
  refine AdE fun R hR => ?_
  unfold Wr
  refine Ax (Sep.start w) (AP w) fun g2 w1 hs => ?_
  refine cal_i Ae8 ?_
  rintro _ w2 ⟨g, rfl, hs1⟩
  replace hs1 := hs.join hs1
  have hbs : ∀ (w : World), (Instr.buildSlice G4 1 #[(0, b)]).run P w = .ok (.slice (some ⟨w.heap.size, 0, none⟩) 1 1) (w.alloc (.cells ([b] : List Value).toArray Ay)) := by
    obtain ⟨a, c, rfl, _⟩ := hb
    intro w
    kernel_rfl
  refine Mx (cs := [b]) (size := 1) hs1 rfl (hbs _) fun g3 w3 hs3 => ?_
  refine cal_i (AbK hc (Sep.p1 hs3) (.inr ⟨_, rfl⟩) hb hl) ?_
  rintro _ w4 ⟨a, r, h, s, rfl, ha, hr, hh, hs4⟩
  refine cal_i (AeG (n := (a ++ r).length) hc hs4 hr hl) ?_
  rintro _ w5 ⟨rfl, hs5⟩
  have e : foldM h.1 (padT r (a ++ r).length) = shaL (a ++ r) := by rw [shaL, AeJ _ _ _ ha, V5 ha, hh]
  have e2 : bvs ((foldM h.1 (padT r (a ++ r).length)).flatMap wOut) = Rdr.cells (rVec 32) (shaM (a ++ r)) := by rw [e]; rfl
  rw [e2]
  refine AB (Sep.p3 hs5) fun w6 hs6 => ?_
  simp only [Ah hs6.blk]
  exact hR _ _ ⟨rfl, hs6.fr0⟩
end
end Go.Fx
set_option linter.unusedVariables false
set_option linter.unusedSimpArgs false
namespace Go.Fx
structure Blk where
  p : Vec 32
  h : Int
  d : List UInt8
deriving DecidableEq
def Blk.none : Blk := ⟨vz 32, 0, []⟩
def Blk.chk (b : Blk) : Int := if b.h < 0 ∨ 200 < b.d.length ∨ (b.h = 0 ∧ b.p ≠ vz 32) then 30 else 0
theorem Blk.chk_or (b : Blk) : b.chk = 0 ∨ b.chk = 30 := by unfold Blk.chk; split <;> simp
theorem Blk.chk_ok {b : Blk} (h : b.chk = 0) : 0 ≤ b.h ∧ b.d.length ≤ 200 ∧ (b.h = 0 → b.p = vz 32) := by
  unfold Blk.chk at h
  split at h
  · cases h
  · rename_i hn
    refine ⟨by omega, by omega, fun h0 => ?_⟩
    by_cases hp : b.p = vz 32
    · exact hp
    · exact absurd (.inr (.inr ⟨h0, hp⟩)) hn
abbrev bq (b : Blk) (v : Value) : Value := .agg (Rdr.cells Au (b.p, b.h, v)).toArray
abbrev bb (g : Nat) (b : Blk) (v : Value) : Asn := blk g (Rdr.cells Au (b.p, b.h, v)).toArray Al
theorem B_ID0 {w : World} (K : Value → Prop) : rdP P (Instr.build Aa #[]) w K = K (.agg (Rdr.cells (rVec 32) (vz 32)).toArray) := Dc (by kernel_rfl) K
theorem bxQ {w0 w : World} {As : List Asn} {t : TypeId} {cs : Array Value} {K : Value → World → Prop} (hs : Sep w0 w As) (h : ∀ g w', Sep w0 w' (blk g cs t :: As) → K (.pointer (some ⟨g, 0, .none⟩)) w') : bx t (.agg cs) w K := bx_s hs fun g w' hs' => h g w' hs'
theorem RdB.one {h : Heap} {v : Value} {l : List UInt8} (hr : RdB h v l) : v.oneCell' = true := by obtain ⟨a, c, rfl⟩ := hr.form; rfl
section
variable {w0 w : World} {As : List Asn} {v u : Value} {a b : Blk}
theorem UU (hb : RdB w.heap v b.d) : cal P G0 [bq b v] w fun r w' => r = .int .i64 b.chk ∧ Fr [] w w' := by
  refine Wy fun R hR => ?_
  unfold NP
  refine bxQ (Sep.start w) fun g w1 hs => ?_
  have hl := (hs.rdB hb).len
  have hf := hs.fr0
  have fin : ∀ c : Int, b.chk = c → R (.int .i64 c) w1 := fun c hc => hR _ _ ⟨by rw [hc], hf⟩
  by_cases h : b.h < 0
  · simp only [h, decide_true, fx, Nat.reduceAdd, forall_const, Az hs.blk, Ak hs.blk, Am hs.blk, Aw hs.blk]
    exact fin 30 (by simp [Blk.chk, h])
  · by_cases h2 : 200 < b.d.length
    · have e : decide ((200 : Int) < b.d.length) = true := by simp; omega
      simp only [h, decide_false, e, hl, fx, Nat.reduceAdd, forall_const, Az hs.blk, Ak hs.blk, Am hs.blk, Aw hs.blk]
      exact fin 30 (by simp [Blk.chk, h2])
    · have e : decide ((200 : Int) < b.d.length) = false := by simp; omega
      by_cases h0 : b.h = 0
      · simp only [h, decide_false, e, hl, fx, Nat.reduceAdd, forall_const, Az hs.blk, Ak hs.blk, Am hs.blk, Aw hs.blk, B_ID0, CB, h0, show ((0 : Int) == 0) = true from rfl, show decide ((0 : Int) < 0) = false from rfl]
        rw [Ai]
        refine ⟨fun h3 => fin 30 ?_, fun h3 => fin 0 ?_⟩
        · have h3 : b.p ≠ vz 32 := by simpa using h3
          simp [Blk.chk, h0, h3]
        · have h3 : b.p = vz 32 := by simpa using h3
          unfold Blk.chk
          rw [if_neg (by rw [h3]; simp; omega)]
      · have he : (b.h == 0) = false := by simpa using h0
        simp only [h, decide_false, e, hl, fx, Nat.reduceAdd, forall_const, Az hs.blk, Ak hs.blk, Am hs.blk, Aw hs.blk, he]
        refine fin 0 ?_
        unfold Blk.chk
        rw [if_neg (by simp [h0]; omega)]
theorem ZQ (hb : RdB w.heap v b.d) : cal P Jj [bq b v] w fun r w' => r = .int .i64 b.chk ∧ Fr [] w w' := by
  refine XK fun R hR => ?_
  unfold NE
  refine bxQ (Sep.start w) fun g w1 hs => ?_
  have hl := (hs.rdB hb).len
  have hf := hs.fr0
  have fin : ∀ c : Int, b.chk = c → R (.int .i64 c) w1 := fun c hc => hR _ _ ⟨by rw [hc], hf⟩
  by_cases h : b.h < 0
  · simp only [h, decide_true, fx, Nat.reduceAdd, forall_const, Az hs.blk, Ak hs.blk, Am hs.blk, Aw hs.blk]
    exact fin 30 (by simp [Blk.chk, h])
  · by_cases h2 : 200 < b.d.length
    · have e : decide ((200 : Int) < b.d.length) = true := by simp; omega
      simp only [h, decide_false, e, hl, fx, Nat.reduceAdd, forall_const, Az hs.blk, Ak hs.blk, Am hs.blk, Aw hs.blk]
      exact fin 30 (by simp [Blk.chk, h2])
    · have e : decide ((200 : Int) < b.d.length) = false := by simp; omega
      by_cases h0 : b.h = 0
      · simp only [h, decide_false, e, hl, fx, Nat.reduceAdd, forall_const, Az hs.blk, Ak hs.blk, Am hs.blk, Aw hs.blk, B_ID0, CB, h0, show ((0 : Int) == 0) = true from rfl, show decide ((0 : Int) < 0) = false from rfl]
        rw [Ai]
        refine ⟨fun h3 => fin 30 ?_, fun h3 => fin 0 ?_⟩
        · have h3 : b.p ≠ vz 32 := by simpa using h3
          simp [Blk.chk, h0, h3]
        · have h3 : b.p = vz 32 := by simpa using h3
          unfold Blk.chk
          rw [if_neg (by rw [h3]; simp; omega)]
      · have he : (b.h == 0) = false := by simpa using h0
        simp only [h, decide_false, e, hl, fx, Nat.reduceAdd, forall_const, Az hs.blk, Ak hs.blk, Am hs.blk, Aw hs.blk, he]
        refine fin 0 ?_
        unfold Blk.chk
        rw [if_neg (by simp [h0]; omega)]
theorem Blk.ext_iff' {a b : Blk} : a = b ↔ a.p = b.p ∧ a.h = b.h ∧ a.d = b.d := by
  cases a; cases b; simp
theorem Ab9 (ha : RdB w.heap u a.d) (hb : RdB w.heap v b.d) : cal P KW [bq a u, bq b v] w fun r w' => r = .bool (decide (a = b)) ∧ Fr [] w w' := by
  refine ZF fun R hR => ?_
  unfold OB
  refine bxQ (Sep.start w) fun g w1 hs => ?_
  refine bxQ hs fun g2 w2 hs2 => ?_
  have hf := hs2.fr0
  have fin : ∀ c : Bool, decide (a = b) = c → R (.bool c) w2 := fun c hc => hR _ _ ⟨by rw [hc], hf⟩
  simp only [fx, Nat.reduceAdd, forall_const, Az hs2.blk, Ak hs2.blk, Am hs2.blk, Aw hs2.blk, Az (Sep.p1 hs2).blk, Ak (Sep.p1 hs2).blk, Am (Sep.p1 hs2).blk, Aw (Sep.p1 hs2).blk, BP]
  by_cases hp : a.p = b.p
  · simp only [hp, decide_true, fx, Nat.reduceAdd, forall_const, Az hs2.blk, Ak hs2.blk, Am hs2.blk, Aw hs2.blk, Az (Sep.p1 hs2).blk, Ak (Sep.p1 hs2).blk, Am (Sep.p1 hs2).blk, Aw (Sep.p1 hs2).blk]
    by_cases hh : a.h = b.h
    · simp only [hh, fx, Nat.reduceAdd, forall_const, beq_self_eq_true, Az hs2.blk, Ak hs2.blk, Am hs2.blk, Aw hs2.blk, Az (Sep.p1 hs2).blk, Ak (Sep.p1 hs2).blk, Am (Sep.p1 hs2).blk, Aw (Sep.p1 hs2).blk]
      refine Bi ?_
      rw [Dc (YD Hd Zh Wg (hs2.rdB ha)), Dc (YD Hd Zh Wg (hs2.rdB hb)), Afn]
      intro _
      refine fin _ ?_
      rw [Bool.eq_iff_iff]
      simp [Blk.ext_iff', hp, hh]
    · have e : (a.h == b.h) = false := by simpa using hh
      simp only [e, fx, Nat.reduceAdd, forall_const]
      exact fin _ (by simp [Blk.ext_iff', hh])
  · simp only [hp, decide_false, fx, Nat.reduceAdd, forall_const]
    exact fin _ (by simp [Blk.ext_iff', hp])
theorem KK (hb : RdB w.heap v b.d) (hl : b.d.length ≤ 140737488355328) : cal P Fp [bq b v] w fun r w' => ∃ v', r = bq b v' ∧ Sep w w' [ownB v' b.d] := by
  refine W9 fun R hR => ?_
  unfold NI
  refine bxQ (Sep.start w) fun g w1 hs => ?_
  refine Ax hs (Bt w1) fun g2 w2 hs2 => ?_
  simp only [fx, Nat.reduceAdd, forall_const, Az (Sep.p1 hs2).blk, Ak (Sep.p1 hs2).blk, Am (Sep.p1 hs2).blk, Aw (Sep.p1 hs2).blk]
  refine cal_i (LQ (hs2.rdB hb) hl) ?_
  rintro v' w3 hs3
  replace hs3 := (hs2.join hs3).p2
  refine I1 hs3 (Sep.one hs3.p1) fun w4 hs4 => ?_
  simp only [Az hs4.blk, Ak hs4.blk, Am hs4.blk, Aw hs4.blk]
  refine Bd hs4.p2 (A8 (Sep.one hs4.p1)) fun w5 hs5 => ?_
  simp only [Az hs5.blk, Ak hs5.blk, Am hs5.blk, Aw hs5.blk]
  exact hR _ _ ⟨v', rfl, hs5.d1.tail⟩
theorem KL (hb : RdB w.heap v b.d) (hl : b.d.length ≤ 140737488355328) : cal P Fm [bq b v] w fun r w' => ∃ v', r = bq b v' ∧ Sep w w' [ownB v' b.d] := by
  refine WM fun R hR => ?_
  unfold NJ
  refine bxQ (Sep.start w) fun g w1 hs => ?_
  refine Ax hs (Bt w1) fun g2 w2 hs2 => ?_
  simp only [fx, Nat.reduceAdd, forall_const, Az (Sep.p1 hs2).blk, Ak (Sep.p1 hs2).blk, Am (Sep.p1 hs2).blk, Aw (Sep.p1 hs2).blk]
  refine Ga Ew Dd (by simp) hs2.nil (hs2.rdB hb) (by simp; omega) fun v' w3 hs3 => ?_
  rw [List.nil_append] at hs3
  replace hs3 := hs3.p2
  refine I1 hs3 (Sep.one hs3.p1) fun w4 hs4 => ?_
  simp only [Az hs4.blk, Ak hs4.blk, Am hs4.blk, Aw hs4.blk]
  refine Bd hs4.p2 (A8 (Sep.one hs4.p1)) fun w5 hs5 => ?_
  simp only [Az hs5.blk, Ak hs5.blk, Am hs5.blk, Aw hs5.blk]
  exact hR _ _ ⟨v', rfl, hs5.d1.tail⟩
def Blk.mk' (b : Blk) : Blk := if b.chk = 0 then b else Blk.none
theorem Wi (hb : RdB w.heap v b.d) : cal P HA [bq b v] w fun r w' => ∃ v', r = .tuple #[bq b.mk' v', .int .i64 b.chk] ∧ Sep w w' [ownB v' b.mk'.d] := by
  refine XR fun R hR => ?_
  unfold OW
  refine bxQ (Sep.start w) fun g w1 hs => ?_
  refine Ax hs (Bt w1) fun g2 w2 hs2 => ?_
  simp only [fx, Nat.reduceAdd, forall_const, Az (Sep.p1 hs2).blk, Ak (Sep.p1 hs2).blk, Am (Sep.p1 hs2).blk, Aw (Sep.p1 hs2).blk]
  refine cal_i (UU (hs2.rdB hb)) ?_
  rintro _ w3 ⟨rfl, hf3⟩
  have hs3 := hs2.old hf3
  rw [J7]
  rcases Blk.chk_or b with h0 | h0
  · have hck := Blk.chk_ok h0
    have hm : b.mk' = b := by rw [Blk.mk', if_pos h0]
    rw [hm, h0] at hR
    simp only [h0, fx, Nat.reduceAdd, forall_const, Az (Sep.p1 hs3).blk, Ak (Sep.p1 hs3).blk, Am (Sep.p1 hs3).blk, Aw (Sep.p1 hs3).blk, show ((0 : Int) != 0) = false from rfl]
    refine cal_i (KK (hs3.rdB hb) (by omega)) ?_
    rintro _ w4 ⟨v', rfl, hs4⟩
    replace hs4 := (hs3.join hs4).p1
    refine Bd hs4 (A8 (Sep.one hs4.p1)) fun w5 hs5 => ?_
    simp only [Az hs5.blk, Ak hs5.blk, Am hs5.blk, Aw hs5.blk]
    exact hR _ _ ⟨v', rfl, hs5.d2.tail⟩
  · have hm : b.mk' = Blk.none := by rw [Blk.mk', if_neg (by omega)]
    rw [hm, h0] at hR
    simp only [h0, fx, Nat.reduceAdd, forall_const, GQ, show ((30 : Int) != 0) = true from rfl]
    refine Bd hs3 (A8 rfl) fun w5 hs5 => ?_
    simp only [Az hs5.blk, Ak hs5.blk, Am hs5.blk, Aw hs5.blk]
    exact hR _ _ ⟨_, rfl, hs5.d1.tail.nil⟩
def Blk.first (d : List UInt8) : Blk := ⟨vz 32, 0, d⟩
theorem Ab4 {l : List UInt8} (hb : RdB w.heap v l) : cal P Jk [v] w fun r w' => ∃ v', r = .tuple #[bq (Blk.first l).mk' v', .int .i64 (Blk.first l).chk] ∧ Sep w w' [ownB v' (Blk.first l).mk'.d] := by
  refine XF fun R hR => ?_
  unfold NA
  refine Ax (Sep.start w) (Bt w) fun g2 w2 hs2 => ?_
  rw [Xj hb.one]
  obtain ⟨b, hbb⟩ : ∃ b, b = Blk.first l := ⟨_, rfl⟩
  have e : Value.agg (Rdr.cells Au (vz 32, (0 : Int), v)).toArray = bq b v := by rw [hbb]; rfl
  have hd : b.d = l := by rw [hbb]; rfl
  rw [← hbb] at hR
  rw [e]
  refine cal_i (Wi (b := b) (by rw [hd]; exact hs2.rdB hb)) ?_
  rintro _ w3 ⟨v', rfl, hs3⟩
  replace hs3 := (hs2.join hs3).p1
  simp only [fx, Nat.reduceAdd, forall_const]
  refine Bd hs3 (A8 (Sep.one hs3.p1)) fun w5 hs5 => ?_
  simp only [Az hs5.blk, Ak hs5.blk, Am hs5.blk, Aw hs5.blk]
  exact hR _ _ ⟨v', rfl, hs5.tail⟩
end
end Go.Fx
set_option linter.unusedVariables false
set_option linter.unusedSimpArgs false
namespace Go.Fx
def Blk.bytes (b : Blk) : List UInt8 := [0, 0] ++ b.p.1 ++ be 8 b.h.toNat ++ be 4 b.d.length ++ b.d
theorem Blk.bytes_len (b : Blk) : b.bytes.length = 46 + b.d.length := by
  have := b.p.2
  simp [Blk.bytes, BY, this]
  omega
def Blk.out (b : Blk) : List UInt8 := if b.chk = 0 then b.bytes else []
def Blk.id (b : Blk) : Vec 32 := shaM b.bytes
def Blk.name (b : Blk) : Vec 32 := if b.chk = 0 then b.id else vz 32
abbrev maxI : Int := 9223372036854775807
section
variable {w0 w : World} {As : List Asn} {v u : Value} {a b : Blk} {g : Nat}
theorem AdD (hs : Sep w0 w (bb g b v :: As)) : At w.heap g 0 (bvs b.p.1) := by
  have := (Fld.fst Fld.self : Fld Au (rVec 32) 0 _ _).at (At.blk (cs := Rdr.cells Au (b.p, b.h, v)) hs.blk)
  exact this
theorem Af1 (hs : Sep w0 w (bb g b v :: As)) (c : Nat) : RdB w.heap (.slice (some ⟨g, 0, none⟩) 32 c) b.p.1 := by
  have := At.rd (c := c) (AdD hs)
  rwa [b.p.2] at this
theorem Agd (hs : Sep w0 w (bb g b v :: As)) {i : Nat} (hi : i < 32) (K : Value → Prop) : ld1 (.pointer (some ⟨g, i, none⟩)) w.heap K = K (bv (b.p.1[i]'(by rw [b.p.2]; exact hi))) := by
  have hl := b.p.2
  have h1 : bvs b.p.1 = bvs (b.p.1.take i) ++ [bv (b.p.1[i]'(by omega))] ++ bvs (b.p.1.drop (i + 1)) := by
    have e : b.p.1 = b.p.1.take i ++ b.p.1[i]'(by omega) :: b.p.1.drop (i + 1) := by rw [← List.drop_eq_getElem_cons, List.take_append_drop]
    unfold bvs
    conv => lhs; rw [e]
    rw [List.map_append, List.map_cons]
    simp only [List.append_assoc, List.singleton_append]
  have ha := AdD hs
  rw [h1] at ha
  have := (ha.part (k := i) (by simp [bvs]; omega)).ld1 K
  rwa [Nat.zero_add] at this
theorem u64_h {h : Int} (h0 : 0 ≤ h) (h1 : h ≤ maxI) : IntKind.u64.wrap h = (h.toNat : Int) := by
  unfold maxI at h1
  rw [wu64i h0 (by omega)]; omega
theorem YV (hb : RdB w.heap v b.d) (hh : b.h ≤ maxI) : cal P I9 [bq b v] w fun r w' => ∃ s, r = .tuple #[s, .int .i64 b.chk] ∧ Sep w w' [ownB s b.out] := by
  refine WX fun R hR => ?_
  unfold NM
  refine bxQ (Sep.start w) fun g w1 hs => ?_
  simp only [Az hs.blk, Ak hs.blk, Am hs.blk, Aw hs.blk]
  refine cal_i (UU (hs.rdB hb)) ?_
  rintro _ w2 ⟨rfl, hf2⟩
  have hs2 := hs.old hf2
  rw [J7]
  rcases Blk.chk_or b with h0 | h0
  · have hck := Blk.chk_ok h0
    have ho : b.out = b.bytes := by rw [Blk.out, if_pos h0]
    rw [ho, h0] at hR
    simp only [h0, fx, Nat.reduceAdd, forall_const, show ((0 : Int) != 0) = false from rfl]
    refine cal_i (NewS 246 (by omega)) ?_
    rintro _ w3 ⟨gp, rfl, hs3⟩
    replace hs3 := hs2.join hs3
    refine cal_i (Agw hs3 (v := 0) (by omega) (by omega) (by simp)) ?_
    rintro _ w4 ⟨rfl, s4, hs4⟩
    rw [VF]
    refine cal_i (Af0 hs4 (c := b.p.1) (by omega) (fun z hz => Af1 hz 32) (by simp [BY, b.p.2])) ?_
    rintro _ w5 ⟨rfl, s5, hs5⟩
    simp only [fx, Nat.reduceAdd, forall_const, Az (Sep.p2 hs5).blk, Ak (Sep.p2 hs5).blk, Am (Sep.p2 hs5).blk, Aw (Sep.p2 hs5).blk, u64_h hck.1 hh]
    refine cal_i (LongS hs5 (by omega) (by unfold maxI at hh; omega) (by simp [BY, b.p.2])) ?_
    rintro _ w6 ⟨rfl, s6, hs6⟩
    simp only [fx, Nat.reduceAdd, forall_const, Az (Sep.p2 hs6).blk, Ak (Sep.p2 hs6).blk, Am (Sep.p2 hs6).blk, Aw (Sep.p2 hs6).blk]
    refine cal_i (Aga hs6 (by omega) (fun z hz => hz.rdB hb) (by simp [BY, b.p.2]; omega)) ?_
    rintro _ w7 ⟨rfl, s7, hs7⟩
    refine cal_i (OutS hs7 (by simp [BY, b.p.2]; omega)) ?_
    rintro _ w8 ⟨r, rfl, hs8⟩
    simp only [fx, Nat.reduceAdd, forall_const]
    have e : [] ++ be 2 0 ++ b.p.1 ++ be 8 b.h.toNat ++ (be 4 b.d.length ++ b.d) = b.bytes := by
      simp [Blk.bytes, be]
    rw [e] at hs8
    exact hR _ _ ⟨r, rfl, hs8.d1.d1.d1⟩
  · have ho : b.out = [] := by rw [Blk.out, if_neg (by omega)]
    rw [ho, h0] at hR
    simp only [h0, fx, Nat.reduceAdd, forall_const, show ((30 : Int) != 0) = true from rfl]
    exact hR _ _ ⟨_, rfl, hs2.tail.nil⟩
theorem ZK (hb : RdB w.heap v b.d) (hh : b.h ≤ maxI) : cal P Jh [bq b v] w fun r w' => ∃ s, r = .tuple #[s, .int .i64 b.chk] ∧ Sep w w' [ownB s b.out] := by
  refine XB fun R hR => ?_
  unfold NL
  refine bxQ (Sep.start w) fun g w1 hs => ?_
  simp only [Az hs.blk, Ak hs.blk, Am hs.blk, Aw hs.blk]
  refine cal_i (ZQ (hs.rdB hb)) ?_
  rintro _ w2 ⟨rfl, hf2⟩
  have hs2 := hs.old hf2
  rw [J7]
  rcases Blk.chk_or b with h0 | h0
  · have hck := Blk.chk_ok h0
    have hp := b.p.2
    have ho : b.out = b.bytes := by rw [Blk.out, if_pos h0]
    rw [ho, h0] at hR
    simp only [h0, fx, Nat.reduceAdd, forall_const, show ((0 : Int) != 0) = false from rfl]
    have hr : ∀ w : World, (Instr.buildSlice Ay 2 #[(0, .int .u8 0), (1, .int .u8 0)]).run P w = .ok (.slice (some ⟨w.heap.size, 0, none⟩) 2 2) (w.alloc (.cells (bvs [0, 0]).toArray DK)) := fun w => by kernel_rfl
    refine Sg (l := [0, 0]) hs2 rfl (hr w2) fun g3 w3 hs3 => ?_
    refine ⟨fun x y w' => ∃ i : Nat, y = .int .i64 i ∧ i ≤ 32 ∧ Sep w w' [ownB x ([0, 0] ++ b.p.1.take i), bb g b v], fun _ y _ => (32 - RowKit.intOf y).toNat, ⟨0, rfl, by omega, by simpa using hs3⟩, ?_⟩
    rintro s4 _ w4 ⟨i, rfl, hi, hs4⟩ -
    simp only [fx, Nat.reduceAdd, forall_const]
    rw [Ai]
    refine ⟨fun h => ?_, fun h => ?_⟩
    · have h32 : i < 32 := by simp at h; omega
      rw [ixa_w .i64 h32, Agd hs4.p1 h32]
      refine app1 hs4 (by simp; omega) fun s5 w5 hs5 => ?_
      rw [wi64 (by omega) (by omega)]
      refine ⟨⟨i + 1, by simp, by omega, ?_⟩, by simp [RowKit.intOf]; omega⟩
      rw [List.take_succ_eq_append_getElem (by omega), ← List.append_assoc]
      exact hs5
    · have h32 : i = 32 := by simp at h; omega
      subst h32
      rw [List.take_of_length_le (by omega)] at hs4
      simp only [fx, Nat.reduceAdd, forall_const, Az (Sep.p1 hs4).blk, Ak (Sep.p1 hs4).blk, Am (Sep.p1 hs4).blk, Aw (Sep.p1 hs4).blk, u64_h hck.1 hh]
      refine cal_i (rNumS (n := 8) (by omega) (by unfold maxI at hh; omega)) ?_
      rintro t5 w5 hs5
      replace hs5 := (hs4.join hs5).p1
      refine Ga Fj Hd (by simp) hs5 (Sep.rd hs5.p1) (by simp [BY, hp]) fun s6 w6 hs6 => ?_
      replace hs6 := hs6.d1
      have hl := (hs6.rdB hb).len
      simp only [fx, Nat.reduceAdd, forall_const, Az (Sep.p1 hs6).blk, Ak (Sep.p1 hs6).blk, Am (Sep.p1 hs6).blk, Aw (Sep.p1 hs6).blk, hl]
      rw [wu64i (by omega) (by omega)]
      refine cal_i (rNumS (n := 4) (by omega) (by omega)) ?_
      rintro t7 w7 hs7
      replace hs7 := (hs6.join hs7).p1
      refine Ga Fj Hd (by simp) hs7 (Sep.rd hs7.p1) (by simp [BY, hp]) fun s8 w8 hs8 => ?_
      replace hs8 := hs8.d1
      simp only [fx, Nat.reduceAdd, forall_const, Az (Sep.p1 hs8).blk, Ak (Sep.p1 hs8).blk, Am (Sep.p1 hs8).blk, Aw (Sep.p1 hs8).blk]
      refine Ga Fj Hd (by simp) hs8 (hs8.rdB hb) (by simp [BY, hp]; omega) fun s9 w9 hs9 => ?_
      have e : [0, 0] ++ b.p.1 ++ be 8 b.h.toNat ++ be 4 b.d.length ++ b.d = b.bytes := rfl
      rw [e] at hs9
      exact hR _ _ ⟨s9, rfl, hs9.d1⟩
  · have ho : b.out = [] := by rw [Blk.out, if_neg (by omega)]
    rw [ho, h0] at hR
    simp only [h0, fx, Nat.reduceAdd, forall_const, show ((30 : Int) != 0) = true from rfl]
    exact hR _ _ ⟨_, rfl, hs2.tail.nil⟩
theorem O6 (hc : Cub w) (hb : RdB w.heap v b.d) (hh : b.h ≤ maxI) : cal P HF [bq b v] w fun r w' => r = .tuple #[.agg (Rdr.cells (rVec 32) b.name).toArray, .int .i64 b.chk] ∧ Fr [] w w' := by
  refine AcK fun R hR => ?_
  unfold UA
  refine bxQ (Sep.start w) fun g w1 hs => ?_
  refine Ax hs (AP w1) fun g2 w2 hs2 => ?_
  simp only [Az (Sep.p1 hs2).blk, Ak (Sep.p1 hs2).blk, Am (Sep.p1 hs2).blk, Aw (Sep.p1 hs2).blk]
  refine cal_i (YV (hs2.rdB hb) hh) ?_
  rintro _ w3 ⟨s, rfl, hs3⟩
  replace hs3 := hs2.join hs3
  simp only [fx, Nat.reduceAdd, forall_const]
  rcases Blk.chk_or b with h0 | h0
  · have hck := Blk.chk_ok h0
    have ho : b.out = b.bytes := by rw [Blk.out, if_pos h0]
    have hn : b.name = shaM b.bytes := by rw [Blk.name, if_pos h0, Blk.id]
    rw [ho] at hs3
    rw [hn, h0] at hR
    simp only [h0, fx, Nat.reduceAdd, forall_const, show ((0 : Int) != 0) = false from rfl]
    refine cal_i (AaV (hc.fr hs3.fr0) (Sep.rd hs3) (by rw [Blk.bytes_len]; omega)) ?_
    rintro _ w4 ⟨rfl, hf4⟩
    have hs4 := (hs3.old hf4).p1
    refine AB hs4 fun w5 hs5 => ?_
    simp only [Ah hs5.blk]
    exact hR _ _ ⟨rfl, hs5.fr0⟩
  · have hn : b.name = vz 32 := by rw [Blk.name, if_neg (by omega)]
    rw [hn, h0] at hR
    simp only [h0, fx, Nat.reduceAdd, forall_const, B_ID0, show ((30 : Int) != 0) = true from rfl]
    refine AB hs3.p1 fun w5 hs5 => ?_
    simp only [Ah hs5.blk]
    exact hR _ _ ⟨rfl, hs5.fr0⟩
theorem Ac9 (hb : RdB w.heap v b.d) (hh : b.h ≤ maxI) : cal P M4 [bq b v] w fun r w' => r = .tuple #[.agg (Rdr.cells (rVec 32) b.name).toArray, .int .i64 b.chk] ∧ Fr [] w w' := by
  refine AcL fun R hR => ?_
  unfold Uf
  refine bxQ (Sep.start w) fun g w1 hs => ?_
  refine Ax hs (AP w1) fun g2 w2 hs2 => ?_
  simp only [Az (Sep.p1 hs2).blk, Ak (Sep.p1 hs2).blk, Am (Sep.p1 hs2).blk, Aw (Sep.p1 hs2).blk]
  refine cal_i (ZK (hs2.rdB hb) hh) ?_
  rintro _ w3 ⟨s, rfl, hs3⟩
  replace hs3 := hs2.join hs3
  simp only [fx, Nat.reduceAdd, forall_const]
  rcases Blk.chk_or b with h0 | h0
  · have hck := Blk.chk_ok h0
    have ho : b.out = b.bytes := by rw [Blk.out, if_pos h0]
    have hn : b.name = shaM b.bytes := by rw [Blk.name, if_pos h0, Blk.id]
    rw [ho] at hs3
    rw [hn, h0] at hR
    simp only [h0, fx, Nat.reduceAdd, forall_const, show ((0 : Int) != 0) = false from rfl]
    refine cal_i (AdJ (Sep.rd hs3) (by rw [Blk.bytes_len]; omega)) ?_
    rintro _ w4 ⟨rfl, hf4⟩
    have hs4 := (hs3.old hf4).p1
    refine AB hs4 fun w5 hs5 => ?_
    simp only [Ah hs5.blk]
    exact hR _ _ ⟨rfl, hs5.fr0⟩
  · have hn : b.name = vz 32 := by rw [Blk.name, if_neg (by omega)]
    rw [hn, h0] at hR
    simp only [h0, fx, Nat.reduceAdd, forall_const, B_ID0, show ((30 : Int) != 0) = true from rfl]
    refine AB hs3.p1 fun w5 hs5 => ?_
    simp only [Ah hs5.blk]
    exact hR _ _ ⟨rfl, hs5.fr0⟩
end
end Go.Fx
set_option linter.unusedVariables false
set_option linter.unusedSimpArgs false
namespace Go.Fx
def Blk.kid (b : Blk) (d : List UInt8) : Blk := ⟨b.id, b.h + 1, d⟩
def Blk.kidOk (b : Blk) (d : List UInt8) : Prop := b.chk = 0 ∧ b.h ≠ maxI ∧ d.length ≤ 200
instance (b : Blk) (d : List UInt8) : Decidable (b.kidOk d) := by unfold Blk.kidOk; infer_instance
def Blk.child (b : Blk) (d : List UInt8) : Blk := if b.kidOk d then b.kid d else Blk.none
def Blk.childE (b : Blk) (d : List UInt8) : Int := if b.kidOk d then 0 else 30
theorem Blk.kid_chk {b : Blk} {d : List UInt8} (h : 0 ≤ b.h) : (b.kid d).chk = if 200 < d.length then 30 else 0 := by
  unfold Blk.chk Blk.kid
  by_cases hd : 200 < d.length
  · rw [if_pos (.inr (.inl hd)), if_pos hd]
  · rw [if_neg (by simp; omega), if_neg hd]
section
variable {w0 w : World} {As : List Asn} {v u : Value} {a b : Blk} {g : Nat} {d : List UInt8}
theorem TS (hc : Cub w) (hb : RdB w.heap v b.d) (hd : RdB w.heap u d) (hh : b.h ≤ maxI) : cal P G3 [bq b v, u] w fun r w' => ∃ v', r = .tuple #[bq (b.child d) v', .int .i64 (b.childE d)] ∧ Sep w w' [ownB v' (b.child d).d] := by
  refine Wz fun R hR => ?_
  unfold Nw
  refine bxQ (Sep.start w) fun g w1 hs => ?_
  refine Ax hs (Bt w1) fun g2 w2 hs2 => ?_
  simp only [Az (Sep.p1 hs2).blk, Ak (Sep.p1 hs2).blk, Am (Sep.p1 hs2).blk, Aw (Sep.p1 hs2).blk]
  refine cal_i (O6 (hc.fr hs2.fr0) (hs2.rdB hb) hh) ?_
  rintro _ w3 ⟨rfl, hf3⟩
  have hs3 := hs2.old hf3
  simp only [fx, Nat.reduceAdd, forall_const]
  refine Ax hs3 (AP w3) fun g4 w4 hs4 => ?_
  refine AB hs4 fun w5 hs5 => ?_
  have bad : ¬ b.kidOk d → stN 34 (.pointer (some ⟨g2, 0, none⟩)) (bq Blk.none (.slice none 0 0)) w5 fun w => ldN 34 (.pointer (some ⟨g2, 0, none⟩)) w.heap fun r1 => R (.tuple #[r1, .int .i64 30]) w := fun hn => by
    rw [Blk.child, Blk.childE, if_neg hn, if_neg hn] at hR
    refine Bd hs5.p1 (A8 rfl) fun w6 hs6 => ?_
    simp only [Az hs6.blk, Ak hs6.blk, Am hs6.blk, Aw hs6.blk]
    exact hR _ _ ⟨_, rfl, hs6.tail.tail.tail.nil⟩
  rcases Blk.chk_or b with h0 | h0
  · have hck := Blk.chk_ok h0
    by_cases hm : b.h = maxI
    · have e : (b.h == 9223372036854775807) = true := by simpa using hm
      simp only [h0, e, fx, Nat.reduceAdd, forall_const, Az (Sep.p2 hs5).blk, Ak (Sep.p2 hs5).blk, Am (Sep.p2 hs5).blk, Aw (Sep.p2 hs5).blk, GQ, show ((0 : Int) != 0) = false from rfl]
      exact bad fun hk => hk.2.1 hm
    · have e : (b.h == 9223372036854775807) = false := by simpa using hm
      have hn : b.name = b.id := by rw [Blk.name, if_pos h0]
      have hlt : b.h < 9223372036854775807 := by unfold maxI at hh hm; omega
      simp only [h0, e, fx, Nat.reduceAdd, forall_const, Az (Sep.p2 hs5).blk, Ak (Sep.p2 hs5).blk, Am (Sep.p2 hs5).blk, Aw (Sep.p2 hs5).blk, Ah hs5.blk, show ((0 : Int) != 0) = false from rfl]
      rw [wi64 (by omega) (by omega), Jr hd.one, hn]
      have hkc := Blk.kid_chk (d := d) hck.1
      have ek : Value.agg (Rdr.cells Au (b.id, b.h + 1, u)).toArray = bq (b.kid d) u := rfl
      have hkd : (b.kid d).d = d := rfl
      obtain ⟨k, hk⟩ : ∃ k, k = b.kid d := ⟨_, rfl⟩
      rw [ek, ← hk]
      rw [← hk] at hkc hkd
      refine cal_i (Wi (b := k) (by rw [hkd]; exact hs5.rdB hd)) ?_
      rintro _ w6 ⟨v', rfl, hs6⟩
      replace hs6 := (hs5.join hs6).p2
      simp only [fx, Nat.reduceAdd, forall_const]
      refine Bd hs6 (A8 (Sep.one hs6.p1)) fun w7 hs7 => ?_
      simp only [Az hs7.blk, Ak hs7.blk, Am hs7.blk, Aw hs7.blk]
      refine hR _ _ ⟨v', ?_, ?_⟩
      · by_cases h2 : 200 < d.length
        · rw [if_pos h2] at hkc
          rw [Blk.mk', Blk.child, Blk.childE, if_neg (by omega), if_neg (fun hk => by have := hk.2.2; omega), if_neg (fun hk => by have := hk.2.2; omega), hkc]
        · rw [if_neg h2] at hkc
          rw [Blk.mk', Blk.child, Blk.childE, if_pos hkc, if_pos ⟨h0, hm, by omega⟩, if_pos ⟨h0, hm, by omega⟩, hk]
          rw [hk] at hkc
          rw [hkc]
      · have : k.mk' = b.child d := by
          by_cases h2 : 200 < d.length
          · rw [if_pos h2] at hkc
            rw [Blk.mk', Blk.child, if_neg (by omega), if_neg (fun hk => by have := hk.2.2; omega)]
          · rw [if_neg h2] at hkc
            rw [Blk.mk', Blk.child, if_pos hkc, if_pos ⟨h0, hm, by omega⟩, hk]
        rw [← this]
        exact hs7.p1.d1.d1.d1
  · simp only [h0, fx, Nat.reduceAdd, forall_const, GQ, show ((30 : Int) != 0) = true from rfl]
    exact bad fun hk => by have := hk.1; omega
end
end Go.Fx
set_option linter.unusedVariables false
set_option linter.unusedSimpArgs false
namespace Go.Fx
def vec32 (l : List UInt8) : Vec 32 := ⟨(l ++ List.replicate 32 0).take 32, by simp⟩
def parB (l : List UInt8) : Blk := ⟨vec32 (l.drop 2), ofBe ((l.drop 34).take 8), l.drop 46⟩
def okP (l : List UInt8) : Prop := 46 ≤ l.length ∧ (parB l).h ≤ maxI ∧ (parB l).chk = 0 ∧ (parB l).bytes = l
instance (l : List UInt8) : Decidable (okP l) := by unfold okP; infer_instance
theorem okP.len {l : List UInt8} (h : okP l) : l.length ≤ 246 := by
  have := (Blk.chk_ok h.2.2.1).2.1
  have hb := congrArg List.length h.2.2.2
  rw [Blk.bytes_len] at hb
  omega
section
variable {w0 w : World} {As : List Asn} {g o n n' : Nat} {cur : Array Value} {T : TypeId} {x : Value} {m : List UInt8}
end
end Go.Fx
set_option linter.unusedVariables false
set_option linter.unusedSimpArgs false
namespace Go.Fx
end Go.Fx
set_option linter.unusedVariables false
set_option linter.unusedSimpArgs false
namespace Go.Fx
end Go.Fx
set_option linter.unusedVariables false
set_option linter.unusedSimpArgs false
namespace Go.Fx
abbrev BV := Blk × Value
def BV.t (x : BV) : Vec 32 × Int × Value := (x.1.p, x.1.h, x.2)
def BRows (h : Heap) (v : Value) (l : List BV) : Prop := Rows' Au h v (l.map BV.t) ∧ ∀ x ∈ l, RdB h x.2 x.1.d
theorem BRows.fr {w w' : World} {v : Value} {l : List BV} (h : BRows w.heap v l) (hf : Fr [] w w') : BRows w'.heap v l := ⟨h.1.fr hf, fun x hx => (h.2 x hx).fr hf (DA _)⟩
theorem BRows.len {h : Heap} {v : Value} {l : List BV} (hr : BRows h v l) (K : Value → Prop) : lenS v K = K (.int .i64 l.length) := by
  have := hr.1.len K
  rwa [List.length_map] at this
section
variable {w0 w : World} {As : List Asn} {v : Value}
def ga : Blk := Blk.first [103]
end
end Go.Fx
set_option linter.unusedVariables false
set_option linter.unusedSimpArgs false
namespace Go.Fx
abbrev Ent (n : Nat) := Vec n × Value × Nat
abbrev kv {n : Nat} (k : Vec n) : Value := .agg (Rdr.cells (rVec n) k).toArray
def entM {n : Nat} (x : Ent n) : MapEntry := { key := kv x.1, val := x.2.1, born := x.2.2 }
def ents {n : Nat} (l : List (Ent n)) : Array MapEntry := (l.map entM).toArray
def findE {n : Nat} (k : Vec n) : List (Ent n) → Nat → Option (Nat × Value)
  | [], _ => none
  | x :: l, i => if k = x.1 then some (i, x.2.1) else findE k l (i + 1)
structure KeyT (P : Program) (T E n : Nat) : Prop where
  und : P.underlying T = some (.array n E)
  el : P.underlying E = some (.int .u8)
  siz : size? P E = some 1
  agg : aggr P E = some false
  eq : EqT P T (rVec n) true 2
section
variable {P : Program} {T E n : Nat} {w : World}
theorem J3 (hT : KeyT P T E n) (k : Vec n) (b : Bool) (d : Nat) : (Instr.checkKey b (d + 2) T (kv k)).run P w = .ok () w := by
  rw [show d + 2 = (d + 1) + 1 from rfl, Instr.checkKey]
  simp only [Sem.run_bind, run_underlying hT.und, Result.andThen_ok]
  simp only [Std.Legacy.Range.forIn_eq_forIn_range', Std.Legacy.Range.size, Nat.sub_zero, Nat.add_one_sub_one, Nat.div_one]
  have each : ∀ j ∈ List.range' 0 n, j < n := fun j hj => by simpa using hj
  generalize List.range' 0 n = is at each
  induction is with
  | nil => simp
  | cons j is ih =>
    have hj := each j (by simp)
    have hv : (Rdr.cells (rVec n) k).toArray[j]? = some (bv (k.1[j]'(by rw [k.2]; exact hj))) := by
      show (bvs k.1).toArray[j]? = _
      rw [List.getElem?_toArray]
      unfold bvs
      rw [List.getElem?_map, List.getElem?_eq_getElem (by rw [k.2]; exact hj)]
      rfl
    have p1 : (Go.part E (Rdr.cells (rVec n) k).toArray (j * 1)).run P w = .ok (bv (k.1[j]'(by rw [k.2]; exact hj))) w := by
      unfold Go.part
      simp [Dq hT.agg, hv]
    have p2 : (Instr.checkKey b (d + 1) E (bv (k.1[j]'(by rw [k.2]; exact hj)))).run P w = .ok () w := by
      rw [Instr.checkKey]
      simp [run_underlying hT.el, bv]
    simp only [List.forIn_cons, Sem.run_bind, BE hT.siz, Result.andThen_ok, p1, p2, Sem.run_pure]
    exact ih fun y hy => each y (by simp [hy])
theorem AdG (hT : KeyT P T E n) (a b : Vec n) : (Op.equal T (kv a) (kv b)).run P w = .ok (decide (a = b)) w := hT.eq.eq 10000 (by decide) w a b
theorem X0 (hT : KeyT P T E n) (k : Vec n) : ∀ (l : List (Ent n)) (i : Nat), (Instr.findAsking T (kv k) (l.map entM) i).run P w = .ok (findE k l i) w
  | [], i => by simp [Instr.findAsking, findE]
  | x :: l, i => by
    rw [List.map_cons, Instr.findAsking]
    have h := AdG (w := w) hT k x.1
    simp only [Sem.run_bind]
    rw [show (entM x).key = kv x.1 from rfl, h]
    simp only [Result.andThen_ok, findE]
    by_cases hk : k = x.1
    · simp [hk, entM]
    · simp only [hk, decide_false, Bool.false_eq_true, if_false]
      exact X0 hT k l (i + 1)
theorem FC (hT : KeyT P T E n) (k : Vec n) (l : List (Ent n)) : (Instr.findKey T (kv k) (ents l).toList).run P w = .ok (findE k l 0) w := by
  rw [run_findKey_eq w (by rw [hT.und])]
  exact X0 hT k l 0
theorem Hq {g c : Nat} {es : Array MapEntry} (hg : w.heap[g]? = some (.map es c)) : (getObj g).run P w = .ok (.map es c) w := by simp [getObj, Sem.run, hg]
theorem ML {g c : Nat} {es : Array MapEntry} (o : Obj) (hg : w.heap[g]? = some (.map es c)) : (setObj g o).run P w = .ok () (B0 w g o) := by simp [setObj, Sem.run, hg, B0]
def getE (k : Vec n) (l : List (Ent n)) : Option Value := (l.find? fun x => decide (k = x.1)).map (·.2.1)
theorem Hl (k : Vec n) : ∀ (l : List (Ent n)) (i : Nat), (findE k l i).map (·.2) = getE k l
  | [], i => rfl
  | x :: l, i => by
    unfold findE getE
    by_cases h : k = x.1
    · simp [h]
    · simp only [h, if_false, List.find?_cons, decide_false]
      exact Hl k l (i + 1)
theorem UG {M V g c : Nat} {l : List (Ent n)} {z : Value} (hM : P.underlying M = some (.map T V)) (hT : KeyT P T E n) (hz : (zeroValue V).run P w = .ok z w) (hg : w.heap[g]? = some (.map (ents l) c)) (k : Vec n) (K : Value → Prop) :
    rdP P (Instr.lookup M (.map (some g)) (kv k) true) w K = K (.tuple #[(getE k l).getD z, .bool (getE k l).isSome]) := by
  refine Dc ?_ K
  unfold Instr.lookup
  simp only [Sem.run_bind, run_underlying hM, Result.andThen_ok, Hq hg, Sem.run_pure, J3 hT k _ 9998, FC hT k l]
  rw [← Hl k l 0]
  cases h : findE k l 0 with
  | none => simp [hz]
  | some x => simp
theorem RH {M V g c : Nat} {l : List (Ent n)} {z : Value} (hM : P.underlying M = some (.map T V)) (hT : KeyT P T E n) (hz : (zeroValue V).run P w = .ok z w) (hg : w.heap[g]? = some (.map (ents l) c)) (k : Vec n) (K : Value → Prop) :
    rdP P (Instr.lookup M (.map (some g)) (kv k) false) w K = K ((getE k l).getD z) := by
  refine Dc ?_ K
  unfold Instr.lookup
  simp only [Sem.run_bind, run_underlying hM, Result.andThen_ok, Hq hg, Sem.run_pure, J3 hT k _ 9998, FC hT k l]
  rw [← Hl k l 0]
  cases h : findE k l 0 with
  | none => simp [hz]
  | some x => simp
theorem Aek {k : Vec n} {l : List (Ent n)} (h : getE k l = none) (i : Nat) : findE k l i = none := by
  have := Hl k l i
  rw [h] at this
  simpa using this
theorem Wq {α β : Type} (f : α → β) : ∀ (l : List α) (i : Nat), (l.map f).eraseIdx i = (l.eraseIdx i).map f
  | [], _ => by simp
  | _ :: _, 0 => rfl
  | a :: l, i + 1 => by simp [Wq f l i]
def delE (k : Vec n) (l : List (Ent n)) : List (Ent n) := match findE k l 0 with
  | some (i, _) => l.eraseIdx i
  | none => l
abbrev mp (g : Nat) (l : List (Ent n)) (c : Nat) : Asn := Asn.obj g (.map (ents l) c)
variable {w0 : World} {As : List Asn}
theorem IV {t : TypeId} {K : Value → World → Prop} (hs : Sep w0 w As) (h : ∀ g w', Sep w0 w' (mp (n := n) g [] 0 :: As) → K (.map (some g)) w') : efP P (Instr.makeMap t none) w K :=
  ⟨.map (some w.heap.size), w.alloc (.map #[] 0), rfl, h _ _ (hs.new (EG w _) (B := mp _ [] 0) ⟨D1 w _, rfl⟩ (by simp))⟩
theorem Sep.map {g c : Nat} {l : List (Ent n)} (hs : Sep w0 w (mp g l c :: As)) : w.heap[g]? = some (.map (ents l) c) := by
  obtain ⟨F, hF, _⟩ := hs.head
  exact hF
theorem M1 {M V g c : Nat} {l : List (Ent n)} {k : Vec n} {v : Value} {K : World → Prop} (hM : P.underlying M = some (.map T V)) (hT : KeyT P T E n) (hs : Sep w0 w (mp g l c :: As)) (hk : getE k l = none)
    (h : ∀ w', Sep w0 w' (mp g (l ++ [(k, v, c)]) (c + 1) :: As) → K w') : efU P (Instr.mapUpdate M (.map (some g)) (kv k) v) w K := by
  have hg := hs.map
  obtain ⟨F, ⟨hb, rfl⟩, hu⟩ := hs.upd
  have e : (ents l).push (entM (k, v, c)) = ents (l ++ [(k, v, c)]) := by
    apply Array.ext'
    simp [ents]
  refine ⟨B0 w g (.map (ents (l ++ [(k, v, c)])) (c + 1)), ?_, h _ (hu _ [g] (mp g _ _) ⟨C6 w g _ _ hb, rfl⟩ (D5 w g _) (Grew.refl _ _))⟩
  unfold Instr.mapUpdate
  simp only [Sem.run_bind, run_underlying hM, Result.andThen_ok, Hq hg, J3 hT k _ 9998, FC hT k l, Aek hk 0]
  rw [← e]
  exact ML _ hg
theorem del_s {M V g c t ty : Nat} {l : List (Ent n)} {k : Vec n} {K : Value → World → Prop} (hM : P.underlying M = some (.map T V)) (hT : KeyT P T E n) (hs : Sep w0 w (mp g l c :: As))
    (h : ∀ w', Sep w0 w' (mp g (delE k l) c :: As) → K (.tuple #[]) w') : efP P (Builtin.delete_ #[M, t] ty #[.map (some g), kv k]) w K := by
  have hg := hs.map
  obtain ⟨F, ⟨hb, rfl⟩, hu⟩ := hs.upd
  refine ⟨.tuple #[], B0 w g (.map (ents (delE k l)) c), ?_, h _ (hu _ [g] (mp g _ _) ⟨C6 w g _ _ hb, rfl⟩ (D5 w g _) (Grew.refl _ _))⟩
  unfold Builtin.delete_
  simp only [List.getElem?_toArray, List.getElem?_cons_zero, List.getElem?_cons_succ, Sem.run_bind, run_underlying hM, Result.andThen_ok, Hq hg, J3 hT k _ 9998, FC hT k l]
  unfold delE
  cases hf : findE k l 0 with
  | none => simp [ML _ hg]
  | some x =>
    obtain ⟨i, y⟩ := x
    have e : (ents l).eraseIdxIfInBounds i = ents (l.eraseIdx i) := by
      apply Array.ext'
      simp [ents, Wq]
    simp [ML _ hg, e]
theorem AfD {M V g c ty : Nat} {l : List (Ent n)} (hM : P.underlying M = some (.map T V)) (hg : w.heap[g]? = some (.map (ents l) c)) (hl : l.length ≤ 9223372036854775807) (K : Value → Prop) : rdP P (Builtin.len_ #[M] ty #[.map (some g)]) w K = K (.int .i64 l.length) := by
  refine Dc ?_ K
  unfold Builtin.len_
  simp [run_underlying hM, Hq hg, ents, goInt]
end
end Go.Fx
set_option linter.unusedVariables false
set_option linter.unusedSimpArgs false
namespace Go.Fx
abbrev Vt := Vec 32 × Int
def ltV (a b : Vec 32) : Bool := decide (ofBe a.1 < ofBe b.1)
def sumV (V : List Vt) : Int := (V.map (·.2)).sum
theorem Adg (V : List Vt) (v : Vt) : sumV (V ++ [v]) = sumV V + v.2 := by simp [sumV]
theorem Ey {V : List Vt} {i : Nat} {v : Vt} (h : V[i]? = some v) : sumV (V.take (i + 1)) = sumV (V.take i) + v.2 := by
  rw [List.take_add_one, h]
  exact Adg _ _
def VAt (V : List Vt) (j : Nat) : Prop := ∀ v, V[j]? = some v → (∀ u, 0 < j → V[j - 1]? = some u → ltV u.1 v.1 = true) ∧ 1 ≤ v.2 ∧ v.2 ≤ 1048576 - sumV (V.take j)
def bagOk (V : List Vt) : Prop := ∀ j, VAt V j
open Classical in
noncomputable def bagE (V : List Vt) : Int := if bagOk V then 0 else 70
theorem Gt {V : List Vt} (h : bagOk V) : bagE V = 0 := if_pos h
theorem VI {V : List Vt} (h : ¬ bagOk V) : bagE V = 70 := if_neg h
theorem F6 {V : List Vt} : bagE V = 0 ↔ bagOk V := by
  by_cases h : bagOk V
  · exact ⟨fun _ => h, fun _ => Gt h⟩
  · refine ⟨fun h2 => ?_, fun h2 => absurd h2 h⟩
    rw [VI h] at h2
    cases h2
theorem VAt.sum {V : List Vt} {i : Nat} (h : ∀ j, j < i → VAt V j) : 0 ≤ sumV (V.take i) ∧ sumV (V.take i) ≤ 1048576 := by
  induction i with
  | zero => simp [sumV]
  | succ i ih =>
    obtain ⟨h1, h2⟩ := ih fun j hj => h j (by omega)
    cases hv : V[i]? with
    | none =>
      have e : V.take (i + 1) = V.take i := by rw [List.take_add_one, hv]; simp
      rw [e]; exact ⟨h1, h2⟩
    | some v =>
      obtain ⟨_, h3, h4⟩ := h i (by omega) v hv
      rw [Ey hv]
      omega
theorem bagOk.sum {V : List Vt} (h : bagOk V) (i : Nat) : 0 ≤ sumV (V.take i) ∧ sumV (V.take i) ≤ 1048576 := VAt.sum fun j _ => h j
theorem bagOk.pos {V : List Vt} (h : bagOk V) : ∀ v ∈ V, 1 ≤ v.2 := fun v hv => by
  obtain ⟨i, hi⟩ := List.getElem?_of_mem hv
  exact (h i v hi).2.1
theorem bagOk.len {V : List Vt} (h : bagOk V) : V.length ≤ 1048576 := by
  have h1 : ∀ i, i ≤ V.length → (i : Int) ≤ sumV (V.take i) := fun i => by
    induction i with
    | zero => simp [sumV]
    | succ i ih =>
      intro hi
      obtain ⟨v, hv⟩ : ∃ v, V[i]? = some v := ⟨_, List.getElem?_eq_getElem (by omega)⟩
      have := (h i v hv).2.1
      have := ih (by omega)
      rw [Ey hv]
      omega
  have := h1 V.length (Nat.le_refl _)
  have := (h.sum V.length).2
  omega
def optB (c : Bool) (v : Value) : Value := bif c then v else undef
def cntV (V : List Vt) (k : Vec 32) : Int := match V.find? fun v => decide (v.1 = k) with | none => 0 | some v => v.2
open Classical in
noncomputable def goodV (V : List Vt) : List Vt := if bagOk V then V else []
section
variable {w0 w w' : World} {v : Value} {V : List Vt}
theorem oneVt {b : Vt} : ∀ u ∈ Rdr.cells Ar b, u.oneCell' = true := BO BW oneI
theorem Ad8 {x y : Value} {a b : List UInt8} (hx : RdB w.heap x a) (hy : RdB w.heap y b) :
    cal P HK [x, y] w fun v w' => v = .int .i64 (Extern.BytealgCompare.cmp ⟨a.toArray⟩ ⟨b.toArray⟩) ∧ w = w' := by
  refine U3 fun R hR => ?_
  unfold Lv
  refine ⟨_, _, ?_, hR _ _ ⟨rfl, rfl⟩⟩
  have hs : (P.funcs[CU]?).isSome = true := by kernel_rfl
  have hf : P.funcs[CU]? = some ((P.funcs[CU]?).get hs) := (Option.some_get hs).symm
  rw [run_callFunc_extern (e := Extern.BytealgCompare.compare) hf (by kernel_rfl) (by kernel_rfl) (by kernel_rfl) (by kernel_rfl)]
  change (Sem.run P (do pure (goInt (Extern.BytealgCompare.cmp (← Extern.Bytes.bytesOf x) (← Extern.Bytes.bytesOf y)))) w).andThen _ = _
  simp only [Sem.run_bind, hx.bytesOf, hy.bytesOf, Result.andThen_ok, Sem.run_pure, goInt]
theorem Vf (a b : Vec 32) : cal P Jf [kv a, kv b] w fun r w' => r = .int .i64 (Extern.BytealgCompare.cmp ⟨a.1.toArray⟩ ⟨b.1.toArray⟩) ∧ Fr [] w w' := by
  refine Xv fun R hR => ?_
  unfold ND
  refine bxQ (Sep.start w) fun g2 w1 hs1 => ?_
  refine bxQ hs1 fun g3 w2 hs2 => ?_
  refine drH_S hs2 fun w3 hs3 _ => ?_
  rw [VF, VF]
  refine Br (cal_i (Ad8 (AdQ hs3.p1) (AdQ hs3)) ?_)
  rintro _ _ ⟨rfl, rfl⟩
  exact hR _ _ ⟨rfl, hs3.fr0⟩
theorem RS (a b : Vec 32) : cal P JK [kv a, kv b] w fun r w' => r = .bool (ltV a b) ∧ Fr [] w w' := by
  refine AcP fun R hR => ?_
  unfold UY
  refine bxQ (Sep.start w) fun g2 w1 hs1 => ?_
  refine bxQ hs1 fun g3 w2 hs2 => ?_
  simp only [Ah hs2.p1.blk, Ah hs2.blk]
  refine cal_i (Vf a b) ?_
  rintro _ w3 ⟨rfl, hf3⟩
  simp only [fx, Nat.reduceAdd, forall_const]
  refine hR _ _ ⟨?_, (hs2.old hf3).fr0⟩
  have h := Af3 a.1 b.1 (by rw [a.2, b.2])
  unfold ltV
  congr 1
  exact decide_eq_decide.2 h
theorem Qt {S : World → Prop} {j : Nat} {a : Vt} {K : Value → Prop} (hw : S w) (hS : ∀ u, S u → Rows' Ar u.heap v V) (hj : V[j]? = some a) (k : IntKind) (h : K (kv a.1)) :
    ixs 33 v (.int k (j : Int)) fun t => fad 0 t fun t' => rdS S (fun w => ldN 32 t' w.heap) K := by
  obtain ⟨g, o, c, rfl⟩ := (hS w hw).form (by decide) hj
  have hlt := (List.getElem?_eq_some_iff.1 hj).1
  rw [show (33 : Nat) = (Ar).size from rfl, Dh _ _ _ _ _ _ _ _ (by omega) (by omega), Int.toNat_natCast]
  simp only [fx, Nat.reduceAdd, forall_const]
  refine ⟨kv a.1, fun z hz => ?_, h⟩
  exact (Lm (At.of (by decide) (hS z hz) hj) _).mpr rfl
theorem YY {j : Nat} {a : Vt} {K : Value → Prop} (hr : Rows' Ar w.heap v V) (hj : V[j]? = some a) (k : IntKind) (h : K (.int .i64 a.2)) :
    ixs 33 v (.int k (j : Int)) fun t => fad 32 t fun t' => Go.Fx.ld1 t' w.heap K := by
  obtain ⟨g, o, c, rfl⟩ := hr.form (by decide) hj
  have hlt := (List.getElem?_eq_some_iff.1 hj).1
  rw [show (33 : Nat) = (Ar).size from rfl, Dh _ _ _ _ _ _ _ _ (by omega) (by omega), Int.toNat_natCast]
  simp only [fx, Nat.reduceAdd, forall_const]
  exact (Iy (At.of (by decide) hr hj) _).mpr h
theorem Abm {S : World → Prop} {j : Nat} {a : Vt} {K : Value → Prop} (hw : S w) (hS : ∀ u, S u → Rows' Ar u.heap v V) (hj : V[j]? = some a) (k : IntKind) (h : K (.int .i64 a.2)) :
    ixs 33 v (.int k (j : Int)) fun t => fad 32 t fun t' => rdS S (fun w => Go.Fx.ld1 t' w.heap) K := by
  obtain ⟨g, o, c, rfl⟩ := (hS w hw).form (by decide) hj
  have hlt := (List.getElem?_eq_some_iff.1 hj).1
  rw [show (33 : Nat) = (Ar).size from rfl, Dh _ _ _ _ _ _ _ _ (by omega) (by omega), Int.toNat_natCast]
  simp only [fx, Nat.reduceAdd, forall_const]
  refine ⟨.int .i64 a.2, fun z hz => ?_, h⟩
  exact (Iy (At.of (by decide) (hS z hz) hj) _).mpr rfl
theorem J9 (hr : Rows' Ar w.heap v V) (hl : V.length ≤ 9223372036854775807) : cal P GU [v] w fun r w' => r = .int .i64 (bagE V) ∧ Fr [] w w' := by
  refine Z0 fun R hR => ?_
  unfold RQ
  rw [hr.len]
  refine ⟨fun a b z => ∃ i : Nat, b = .int .i64 i ∧ i ≤ V.length ∧ a = .int .i64 (sumV (V.take i)) ∧ (∀ j, j < i → VAt V j) ∧ Fr [] w z, fun _ b _ => (V.length - RowKit.intOf b).toNat, ⟨0, rfl, by omega, by simp [sumV], fun j hj => by omega, Fr.refl _ _⟩, ?_⟩
  rintro _ _ z ⟨i, rfl, hi, rfl, hV, hf⟩ -
  obtain ⟨hs0, hs1⟩ := VAt.sum hV
  simp only [fx, Nat.reduceAdd, forall_const]
  rw [Ai]
  refine ⟨fun h => ?_, fun h => ?_⟩
  case refine_2 =>
    have hge : i = V.length := by simp at h; omega
    refine hR _ _ ⟨?_, hf⟩
    rw [Gt fun j => ?_]
    by_cases hj : j < i
    · exact hV j hj
    · intro u hu
      have := (List.getElem?_eq_some_iff.1 hu).1
      omega
  have hlt : i < V.length := by simp at h; omega
  obtain ⟨a, ha⟩ : ∃ a, V[i]? = some a := ⟨_, List.getElem?_eq_getElem hlt⟩
  have hrz := hr.fr hf
  change ixs 33 _ _ _
  refine Rows'.ldN (q := Ar) (by decide) hrz ha .i64 ?_
  refine Ax ((Sep.start w).old hf) (Nm z) fun g5 z1 hz1 => ?_
  refine LV (b := a) hz1 oneVt fun z2 hz2 => ?_
  refine drH_S hz2 fun z3 hz3 _ => ?_
  simp only [fx, Nat.reduceAdd, forall_const]
  classical
  obtain ⟨lt, hlt'⟩ : ∃ lt : Bool, lt = decide (∀ u, 0 < i → V[i - 1]? = some u → ltV u.1 a.1 = true) := by
    cases hp : V[i - 1]? with
    | none => exact ⟨true, by simp⟩
    | some u =>
      by_cases h0 : 0 < i
      · by_cases hc : ltV u.1 a.1 = true
        · exact ⟨true, by symm; exact decide_eq_true fun x _ hx => by cases hx; exact hc⟩
        · exact ⟨false, by symm; exact decide_eq_false fun hx => hc (hx u h0 rfl)⟩
      · exact ⟨true, by symm; exact decide_eq_true fun x hx => absurd hx h0⟩
  refine ⟨fun y z => pik (.bool (decide ((0 : Int) < (i : Int)))) y (.bool false) (fun t => t = .bool (!lt)) ∧ Sep w z [blk g5 (Rdr.cells Ar a).toArray BA], ?_, ?_⟩
  · by_cases h0 : i = 0
    · subst h0
      have hl1 : lt = true := by rw [hlt']; exact decide_eq_true fun u hu => by omega
      rw [hl1]
      simp only [fx, Nat.reduceAdd, forall_const, show decide ((0 : Int) < ((0 : Nat) : Int)) = false from rfl]
      exact ⟨trivial, hz3⟩
    · have hd0 : decide ((0 : Int) < (i : Int)) = true := by simp; omega
      obtain ⟨u, hu⟩ : ∃ u, V[i - 1]? = some u := ⟨_, List.getElem?_eq_getElem (by omega)⟩
      have hl1 : lt = ltV u.1 a.1 := by
        rw [hlt']
        cases hc : ltV u.1 a.1 with
        | true => exact decide_eq_true fun x _ hx => by rw [hu] at hx; cases hx; exact hc
        | false => exact decide_eq_false fun hx => by have := hx u (by omega) hu; rw [hc] at this; cases this
      simp only [hd0, fx, Nat.reduceAdd, forall_const]
      rw [wi64 (by omega) (by omega), show (i : Int) - 1 = ((i - 1 : Nat) : Int) by omega]
      refine Qt hz3 (fun x hx => hr.fr hx.fr0) hu .i64 ?_
      refine ⟨kv a.1, fun x hx => (Gs (Sep.blk hx) _).mpr rfl, ?_⟩
      refine efS_i (cal_i (RS u.1 a.1) ?_)
      rintro _ z4 ⟨rfl, hf4⟩
      have hz4 := hz3.old hf4
      refine ⟨hz4, ?_⟩
      simp only [fx, Nat.reduceAdd, forall_const]
      exact ⟨by rw [hl1], hz4⟩
  rintro y z4 ⟨hy, hz4⟩ _
  have ep : ∀ K, pik (.bool (decide ((0 : Int) < (i : Int)))) y (.bool false) K = K (.bool (!lt)) := fun K => by
    cases hd : decide ((0 : Int) < (i : Int)) with
    | true => rw [hd] at hy; rw [K0] at hy ⊢; rw [hy]
    | false => rw [hd] at hy; rw [II] at hy ⊢; rw [hy]
  rw [ep]
  refine ⟨fun y z => y = optB lt (.bool (decide (a.2 < 1))) ∧ Sep w z [blk g5 (Rdr.cells Ar a).toArray BA], ?_, ?_⟩
  · cases lt with
    | false => simp only [fx, Nat.reduceAdd, forall_const]; exact ⟨rfl, hz4⟩
    | true =>
      simp only [fx, Nat.reduceAdd, forall_const]
      refine AG (v := .int .i64 a.2) (fun u hu K hk => (Fs (Sep.blk hu) K).mpr hk) ?_
      simp only [fx, Nat.reduceAdd, forall_const]
      exact ⟨rfl, hz4⟩
  rintro _ z5 ⟨rfl, hz5⟩ _
  obtain ⟨bad, hbad⟩ : ∃ bad : Bool, bad = (!lt || decide (a.2 < 1)) := ⟨_, rfl⟩
  have ep2 : ∀ K, pik (.bool (!lt)) (.bool true) (optB lt (.bool (decide (a.2 < 1)))) K = K (.bool bad) := fun K => by
    rw [hbad]
    cases lt <;> simp only [fx, Nat.reduceAdd, forall_const, optB]
  rw [ep2]
  have ew : IntKind.i64.wrap (1048576 - sumV (V.take i)) = 1048576 - sumV (V.take i) := wi64 (by omega) (by omega)
  refine ⟨fun y z => y = optB (!bad) (.bool (decide (1048576 - sumV (V.take i) < a.2))) ∧ Sep w z [blk g5 (Rdr.cells Ar a).toArray BA], ?_, ?_⟩
  · cases bad with
    | true => simp only [fx, Nat.reduceAdd, forall_const]; exact ⟨rfl, hz5⟩
    | false =>
      simp only [fx, Nat.reduceAdd, forall_const]
      refine AG (v := .int .i64 a.2) (fun u hu K hk => (Fs (Sep.blk hu) K).mpr hk) ?_
      simp only [fx, Nat.reduceAdd, forall_const, ew]
      exact ⟨rfl, hz5⟩
  rintro _ z6 ⟨rfl, hz6⟩ _
  have ep3 : ∀ K, pik (.bool bad) (.bool true) (optB (!bad) (.bool (decide (1048576 - sumV (V.take i) < a.2)))) K = K (.bool (bad || decide (1048576 - sumV (V.take i) < a.2))) := fun K => by
    cases bad <;> simp only [fx, Nat.reduceAdd, forall_const, optB]
  rw [ep3, Ai, hbad]
  refine ⟨fun h => ?_, fun h => ?_⟩
  · refine hR _ _ ⟨?_, hz6.fr0⟩
    rw [VI fun hb => ?_]
    obtain ⟨h1, h2, h3⟩ := hb i a ha
    have hl1 : lt = true := by rw [hlt']; exact decide_eq_true h1
    rw [hl1] at h
    simp only [Bool.not_true, Bool.false_or, Bool.or_eq_true, decide_eq_true_eq] at h
    omega
  · have hl1 : lt = true ∧ 1 ≤ a.2 ∧ a.2 ≤ 1048576 - sumV (V.take i) := by
      simp only [Bool.or_eq_false_iff, Bool.not_eq_false', decide_eq_false_iff_not] at h
      exact ⟨h.1.1, by omega, by omega⟩
    simp only [fx, Nat.reduceAdd, forall_const, MP hz6.blk, Gs hz6.blk, Fs hz6.blk]
    rw [wi64 (by omega) (by omega), wi64 (by omega) (by omega)]
    refine ⟨⟨i + 1, by simp, by omega, by rw [Ey ha], fun j hj => ?_, hz6.fr0⟩, by simp [RowKit.intOf] <;> omega⟩
    by_cases hji : j < i
    · exact hV j hji
    · obtain rfl : j = i := by omega
      intro u hu
      rw [ha] at hu
      cases hu
      exact ⟨of_decide_eq_true (hlt'.symm.trans hl1.1), hl1.2⟩
theorem RU (hr : Rows' Ar w.heap v V) (hl : V.length ≤ 9223372036854775807) : cal P JM [v] w fun r w' => Rows' Ar w'.heap r (goodV V) ∧ Fr [] w w' := by
  refine AcR fun R hR => ?_
  unfold Um
  refine cal_i (J9 hr hl) ?_
  rintro _ w1 ⟨rfl, hf1⟩
  simp only [fx, Nat.reduceAdd, forall_const]
  rw [Ai]
  refine ⟨fun h => ?_, fun h => ?_⟩
  · have hb : ¬ bagOk V := fun hb => by rw [Gt hb] at h; cases h
    refine hR _ _ ⟨?_, hf1⟩
    rw [goodV, if_neg hb]
    exact ⟨none, 0, rfl, by simp, .inl (by simp)⟩
  · have hb : bagOk V := F6.1 (by simpa using h)
    refine hR _ _ ⟨?_, hf1⟩
    rw [goodV, if_pos hb]
    exact hr.fr hf1
theorem ZC (V : List Vt) : bagOk (goodV V) := by
  by_cases h : bagOk V
  · rw [goodV, if_pos h]; exact h
  · rw [goodV, if_neg h]
    intro j u hu
    simp at hu
theorem YW (hr : Rows' Ar w.heap v V) (hl : V.length ≤ 9223372036854775807) : cal P LA [v] w fun r w' => r = .int .i64 (sumV (goodV V)) ∧ Fr [] w w' := by
  refine AaR fun R hR => ?_
  unfold R5
  refine cal_i (RU hr hl) ?_
  rintro y w1 ⟨hry, hf1⟩
  have hok := ZC V
  obtain ⟨G, hG⟩ : ∃ G, G = goodV V := ⟨_, rfl⟩
  rw [← hG] at hry hok hR
  have hGl := hok.len
  rw [hry.len]
  refine ⟨fun a b z => ∃ i : Nat, b = .int .i64 i ∧ i ≤ G.length ∧ a = .int .i64 (sumV (G.take i)) ∧ Fr [] w1 z, fun _ b _ => (G.length - RowKit.intOf b).toNat, ⟨0, rfl, by omega, by simp [sumV], Fr.refl _ _⟩, ?_⟩
  rintro _ _ z ⟨i, rfl, hi, rfl, hf⟩ -
  simp only [fx, Nat.reduceAdd, forall_const]
  rw [Ai]
  refine ⟨fun h => ?_, fun h => ?_⟩
  case refine_2 =>
    have hge : i = G.length := by simp at h; omega
    refine hR _ _ ⟨?_, hf1.trans hf (by simp) (by simp)⟩
    rw [hge, List.take_of_length_le (Nat.le_refl _)]
  have hlt : i < G.length := by simp at h; omega
  obtain ⟨a, ha⟩ : ∃ a, G[i]? = some a := ⟨_, List.getElem?_eq_getElem hlt⟩
  change ixs 33 _ _ _
  refine Rows'.ldN (q := Ar) (by decide) (hry.fr hf) ha .i64 ?_
  refine Ax ((Sep.start w1).old hf) (Nm z) fun g5 z1 hz1 => ?_
  refine LV (b := a) hz1 oneVt fun z2 hz2 => ?_
  simp only [fx, Nat.reduceAdd, forall_const, MP hz2.blk, Gs hz2.blk, Fs hz2.blk]
  have h1 := hok.sum i
  have h2 := hok.sum (i + 1)
  rw [Ey ha] at h2
  rw [wi64 (by omega) (by omega), wi64 (by omega) (by omega)]
  exact ⟨⟨i + 1, by simp, by omega, by rw [Ey ha], hz2.fr0⟩, by simp [RowKit.intOf] <;> omega⟩
theorem AdL {V : List Vt} {k : Vec 32} {i : Nat} {a : Vt} (ha : V[i]? = some a) (hn : ∀ j u, j < i → V[j]? = some u → u.1 ≠ k) (hk : a.1 = k) : cntV V k = a.2 := by
  unfold cntV
  have e : V = V.take i ++ a :: V.drop (i + 1) := by
    have hlt := (List.getElem?_eq_some_iff.1 ha).1
    have h2 : V[i] = a := (List.getElem?_eq_some_iff.1 ha).2
    rw [← h2, List.getElem_cons_drop, List.take_append_drop]
  have h1 : (V.take i).find? (fun v => decide (v.1 = k)) = none := by
    rw [List.find?_eq_none]
    intro x hx
    obtain ⟨j, hj⟩ := List.getElem?_of_mem hx
    rw [List.getElem?_take] at hj
    split at hj
    · rename_i hji
      simpa using hn j x hji hj
    · cases hj
  rw [e, List.find?_append, h1, Option.none_or, List.find?_cons_of_pos (by simpa using hk)]
theorem Aed {V : List Vt} {k : Vec 32} (hn : ∀ u ∈ V, u.1 ≠ k) : cntV V k = 0 := by
  unfold cntV
  have h1 : V.find? (fun v => decide (v.1 = k)) = none := by
    rw [List.find?_eq_none]
    intro x hx
    simpa using hn x hx
  rw [h1]
theorem XY (hr : Rows' Ar w.heap v V) (hl : V.length ≤ 9223372036854775807) (k : Vec 32) : cal P L1 [v, kv k] w fun r w' => r = .int .i64 (cntV (goodV V) k) ∧ Fr [] w w' := by
  refine Z1 fun R hR => ?_
  unfold RE
  refine bxQ (Sep.start w) fun g3 w1 hs1 => ?_
  refine cal_i (RU (hr.fr hs1.fr0) hl) ?_
  rintro y w2 ⟨hry, hf2⟩
  have hs2 := hs1.old hf2
  have hc3 := Sep.blk hs2
  have hok := ZC V
  obtain ⟨G, hG⟩ : ∃ G, G = goodV V := ⟨_, rfl⟩
  rw [← hG] at hry hok hR
  have hGl := hok.len
  rw [hry.len]
  refine ⟨fun b z => ∃ i : Nat, b = .int .i64 i ∧ i ≤ G.length ∧ (∀ j u, j < i → G[j]? = some u → u.1 ≠ k) ∧ Fr [] w2 z, fun b _ => (G.length - RowKit.intOf b).toNat, ⟨0, rfl, by omega, fun j u hj => by omega, Fr.refl _ _⟩, ?_⟩
  rintro _ z ⟨i, rfl, hi, hn, hf⟩ -
  simp only [fx, Nat.reduceAdd, forall_const]
  rw [Ai]
  refine ⟨fun h => ?_, fun h => ?_⟩
  case refine_2 =>
    have hge : i = G.length := by simp at h; omega
    refine hR _ _ ⟨?_, (hs2.old hf).fr0⟩
    rw [Aed fun u hu => ?_]
    obtain ⟨j, hj⟩ := List.getElem?_of_mem hu
    exact hn j u (by have := (List.getElem?_eq_some_iff.1 hj).1; omega) hj
  have hlt : i < G.length := by simp at h; omega
  obtain ⟨a, ha⟩ : ∃ a, G[i]? = some a := ⟨_, List.getElem?_eq_getElem hlt⟩
  change ixs 33 _ _ _
  refine Rows'.ldN (q := Ar) (by decide) (hry.fr hf) ha .i64 ?_
  refine Ax ((Sep.start w2).old hf) (Nm z) fun g5 z1 hz1 => ?_
  have hc3z := fun (u : World) (hu : Fr [] w2 u) => hu.blk hc3 (by simp)
  refine LV (b := a) hz1 oneVt fun z2 hz2 => ?_
  simp only [fx, Nat.reduceAdd, forall_const, MP hz2.blk, Gs hz2.blk, Fs hz2.blk, Ah (hc3z _ hz2.fr0), BP]
  rw [Ai]
  refine ⟨fun h2 => ?_, fun h2 => ?_⟩
  · exact hR _ _ ⟨by rw [AdL ha hn (by simpa using h2)], (hs2.old hz2.fr0).fr0⟩
  · rw [wi64 (by omega) (by omega)]
    refine ⟨⟨i + 1, by simp, by omega, fun j u hj hu => ?_, ?_⟩, by simp [RowKit.intOf] <;> omega⟩
    · by_cases hji : j < i
      · exact hn j u hji hu
      · obtain rfl : j = i := by omega
        rw [ha] at hu
        cases hu
        simpa using h2
    · exact hz2.fr0
end
end Go.Fx
set_option linter.unusedVariables false
set_option linter.unusedSimpArgs false
namespace Go.Fx
def ahead (V : List Vt) (k : Vec 32) : Nat := (V.takeWhile fun v => ltV v.1 k).length
def putM (V : List Vt) (k : Vec 32) (n : Int) : List Vt :=
  if n = 0 then V else V.take (ahead V k) ++ (match V[ahead V k]? with
    | some v => if v.1 = k then (k, n + v.2) :: V.drop (ahead V k + 1) else (k, n) :: V.drop (ahead V k)
    | none => [(k, n)])
open Classical in
noncomputable def addB (V : List Vt) (k : Vec 32) (n : Int) : List Vt × Int :=
  if bagE V ≠ 0 then ([], 70) else if n < 0 then ([], 1) else if 1048576 - sumV V < n then ([], 6) else (putM V k n, 0)
theorem Ae3 (V : List Vt) (k : Vec 32) : ahead V k ≤ V.length := (List.takeWhile_sublist _).length_le
theorem Aer (V : List Vt) (k : Vec 32) (n : Int) : (putM V k n).length ≤ V.length + 1 := by
  unfold putM
  split
  · omega
  · have h := Ae3 V k
    rw [List.length_append, List.length_take]
    cases hv : V[ahead V k]? with
    | none => simp; omega
    | some v =>
      have hlt := (List.getElem?_eq_some_iff.1 hv).1
      simp only
      split <;> simp <;> omega
theorem AeD {V : List Vt} {k : Vec 32} {i : Nat} (h1 : ∀ j v, j < i → V[j]? = some v → ltV v.1 k = true) (hi : i ≤ V.length) (h2 : ∀ v, V[i]? = some v → ltV v.1 k = false) : ahead V k = i := by
  unfold ahead
  induction V generalizing i with
  | nil => simp at hi; simp [hi]
  | cons v V ih =>
    cases i with
    | zero =>
      have := h2 v rfl
      rw [List.takeWhile_cons_of_neg (by simp [this])]
      rfl
    | succ i =>
      have := h1 0 v (by omega) rfl
      rw [List.takeWhile_cons_of_pos (p := fun v : Vt => ltV v.1 k) this, List.length_cons, ih (i := i) (fun j u hj hu => h1 (j + 1) u (by omega) hu) (by simpa using hi) (fun u hu => h2 u hu)]
theorem Aeq {a b : List UInt8} (hl : a.length = b.length) {i : Nat} {x y : UInt8} (hx : a[i]? = some x) (hy : b[i]? = some y) (he : a.take i = b.take i) (hne : x ≠ y) : (ofBe a < ofBe b) ↔ x < y := by
  have ha : a = a.take i ++ x :: a.drop (i + 1) := by
    have h := List.getElem?_eq_some_iff.1 hx
    rw [← h.2, List.getElem_cons_drop, List.take_append_drop]
  have hb : b = b.take i ++ y :: b.drop (i + 1) := by
    have h := List.getElem?_eq_some_iff.1 hy
    rw [← h.2, List.getElem_cons_drop, List.take_append_drop]
  have hd : (a.drop (i + 1)).length = (b.drop (i + 1)).length := by simp [hl]
  rw [ha, hb, ← he, GT, GT, Lr, Lr, List.length_cons, List.length_cons, hd]
  have h1 := Qj (a.drop (i + 1))
  have h2 := Qj (b.drop (i + 1))
  rw [hd] at h1
  generalize 256 ^ (b.drop (i + 1)).length = q at *
  rw [UInt8.lt_iff_toNat_lt]
  have hne2 : x.toNat ≠ y.toNat := fun h => hne (UInt8.toNat_inj.1 h)
  constructor
  · intro h
    rcases Nat.lt_or_ge x.toNat y.toNat with hlt | hge
    · exact hlt
    · exfalso
      have : (y.toNat + 1) * q ≤ x.toNat * q := Nat.mul_le_mul_right _ (by omega)
      rw [Nat.add_mul, Nat.one_mul] at this
      omega
  · intro h
    have : (x.toNat + 1) * q ≤ y.toNat * q := Nat.mul_le_mul_right _ h
    rw [Nat.add_mul, Nat.one_mul] at this
    omega
end Go.Fx
set_option linter.unusedVariables false
set_option linter.unusedSimpArgs false
namespace Go.Fx
theorem Ie {d : Bool} {w : World} {A : (Value → World → Prop) → Prop} {rest : Env → Value → World → Prop} (c : Bool) (Q : World → Prop) (hA : d = true → A fun y z => y = .bool c ∧ Q z) (hn : d = false → c = false ∧ Q w)
    (hr : ∀ y z, (∀ K, pik (.bool d) y (.bool false) K = K (.bool c)) → Q z → ∀ junk, rest junk y z) : jn1 (fun k => gif (.bool d) true (A k) (k undef w)) rest := by
  refine ⟨fun y z => (∀ K, pik (.bool d) y (.bool false) K = K (.bool c)) ∧ Q z, ?_, fun y z h => hr y z h.1 h.2⟩
  cases d with
  | true =>
    rw [Il]
    have e : (fun y z => y = .bool c ∧ Q z) = (fun y z => (∀ K, pik (.bool true) y (.bool false) K = K (.bool c)) ∧ Q z) := by
      funext y z
      simp only [K0]
      refine propext ⟨fun ⟨h1, h2⟩ => ⟨fun K => by rw [h1], h2⟩, fun ⟨h1, h2⟩ => ⟨?_, h2⟩⟩
      have := h1 fun t => t = .bool c
      simp only [eq_self] at this
      exact this.mpr trivial
    have := hA rfl
    rw [e] at this
    exact this
  | false =>
    obtain ⟨h1, h2⟩ := hn rfl
    rw [Uv]
    exact ⟨fun K => by rw [II, h1], h2⟩
theorem Yu {d : Bool} {w : World} {A : (Value → World → Prop) → Prop} {rest : Env → Value → World → Prop} (c : Bool) (Q : World → Prop) (hA : d = false → A fun y z => y = .bool c ∧ Q z) (hn : d = true → c = true ∧ Q w)
    (hr : ∀ y z, (∀ K, pik (.bool d) (.bool true) y K = K (.bool c)) → Q z → ∀ junk, rest junk y z) : jn1 (fun k => gif (.bool d) false (A k) (k undef w)) rest := by
  refine ⟨fun y z => (∀ K, pik (.bool d) (.bool true) y K = K (.bool c)) ∧ Q z, ?_, fun y z h => hr y z h.1 h.2⟩
  cases d with
  | false =>
    rw [Il]
    have e : (fun y z => y = .bool c ∧ Q z) = (fun y z => (∀ K, pik (.bool false) (.bool true) y K = K (.bool c)) ∧ Q z) := by
      funext y z
      simp only [II]
      refine propext ⟨fun ⟨h1, h2⟩ => ⟨fun K => by rw [h1], h2⟩, fun ⟨h1, h2⟩ => ⟨?_, h2⟩⟩
      have := h1 fun t => t = .bool c
      simp only [eq_self] at this
      exact this.mpr trivial
    have := hA rfl
    rw [e] at this
    exact this
  | true =>
    obtain ⟨h1, h2⟩ := hn rfl
    rw [Tx]
    exact ⟨fun K => by rw [K0, h1], h2⟩
theorem vtOne (l : List Vt) : ∀ u ∈ l.flatMap (Rdr.cells Ar), u.oneCell' = true := fun u hu => by
  obtain ⟨x, hx, hu⟩ := List.mem_flatMap.1 hu
  exact oneVt u hu
section
variable {w0 w w' : World} {As : List Asn} {v : Value} {V : List Vt} {a0 : Option Addr} {c0 : Nat}
theorem Ye (a b : Vec 32) : cal P FV [kv a, kv b] w fun r w' => r = .bool (ltV a b) ∧ Fr [] w w' := by
  refine Y5 fun R hR => ?_
  unfold PB
  refine bxQ (Sep.start w) fun g2 w1 hs1 => ?_
  refine bxQ hs1 fun g3 w2 hs2 => ?_
  have ha := a.2
  have hb := b.2
  refine ⟨fun y z => ∃ i : Nat, y = .int .i64 i ∧ i ≤ 32 ∧ a.1.take i = b.1.take i ∧ Sep w z [blk g3 (Rdr.cells (rVec 32) b).toArray Aa, blk g2 (Rdr.cells (rVec 32) a).toArray Aa], fun y _ => (32 - RowKit.intOf y).toNat, ⟨0, rfl, by omega, rfl, hs2⟩, ?_⟩
  rintro _ z ⟨i, rfl, hi, he, hz⟩ -
  try simp only [fx, Nat.reduceAdd, forall_const]
  rw [Ai]
  refine ⟨fun h => ?_, fun h => ?_⟩
  case refine_2 =>
    have hi32 : i = 32 := by simp at h; omega
    subst hi32
    rw [List.take_of_length_le (by omega), List.take_of_length_le (by omega)] at he
    refine hR _ _ ⟨?_, hz.fr0⟩
    unfold ltV
    rw [he]
    simp
  have hlt : i < 32 := by simp at h; omega
  have byte : ∀ {z : World} {g : Nat} {x : Vec 32} {T : TypeId} {Bs : List Asn}, Sep w z (blk g (Rdr.cells (rVec 32) x).toArray T :: Bs) → ∀ (hx : i < x.1.length) {K : Value → Prop}, K (.int .u8 (x.1[i]'hx).toNat) → ld1 (.pointer (some ⟨g, i, none⟩)) z.heap K := fun {z g x T Bs} hz hx {K} hk => by
    refine ld1_i (v := bv (x.1[i]'hx)) (Sep.blk hz) ?_ hk
    show (bvs x.1).toArray[i]? = _
    simp [bvs, hx]
  refine drw_s hz fun z2 hz2 _ => ?_
  rw [ixa_w .i64 hlt]
  refine byte hz2.p1 (by omega) ?_
  rw [ixa_w .i64 hlt]
  refine byte hz2 (by omega) ?_
  try simp only [fx, Nat.reduceAdd, forall_const]
  rw [Ai]
  have hxa : a.1[i]? = some (a.1[i]'(by omega)) := List.getElem?_eq_getElem _
  have hxb : b.1[i]? = some (b.1[i]'(by omega)) := List.getElem?_eq_getElem _
  refine ⟨fun h2 => ?_, fun h2 => ?_⟩
  · have hne : a.1[i]'(by omega) ≠ b.1[i]'(by omega) := fun hq => by rw [hq] at h2; simp at h2
    refine drw_s hz2 fun z3 hz3 _ => ?_
    rw [ixa_w .i64 hlt]
    refine byte hz3.p1 (by omega) ?_
    rw [ixa_w .i64 hlt]
    refine byte hz3 (by omega) ?_
    try simp only [fx, Nat.reduceAdd, forall_const]
    refine hR _ _ ⟨?_, hz3.fr0⟩
    have h3 := Aeq (by rw [ha, hb]) hxa hxb he hne
    unfold ltV
    congr 1
    refine decide_eq_decide.2 ?_
    rw [h3, UInt8.lt_iff_toNat_lt]
    omega
  · have heq : a.1[i]'(by omega) = b.1[i]'(by omega) := by
      have h2 : ((a.1[i]'(by omega)).toNat : Int) = ((b.1[i]'(by omega)).toNat : Int) := by simpa using h2
      exact UInt8.toNat_inj.1 (by omega)
    rw [wi64 (by omega) (by omega)]
    refine ⟨⟨i + 1, by simp, by omega, ?_, hz2⟩, by simp [RowKit.intOf] <;> omega⟩
    rw [List.take_add_one, List.take_add_one, he, hxa, hxb, heq]
theorem Qr (hr : Rows' Ar w.heap v V) (hl : V.length ≤ 9223372036854775807) : cal P Ek [v] w fun r w' => r = .int .i64 (bagE V) ∧ Fr [] w w' := by
  refine Xg fun R hR => ?_
  unfold NC
  refine ⟨fun a b z => ∃ i : Nat, b = .int .i64 i ∧ i ≤ V.length ∧ a = .int .i64 (1048576 - sumV (V.take i)) ∧ (∀ j, j < i → VAt V j) ∧ Fr [] w z, fun _ b _ => (V.length - RowKit.intOf b).toNat, ⟨0, rfl, by omega, by simp [sumV], fun j hj => by omega, Fr.refl _ _⟩, ?_⟩
  rintro _ _ z ⟨i, rfl, hi, rfl, hV, hf⟩ -
  obtain ⟨hs0, hs1⟩ := VAt.sum hV
  rw [hr.len]
  try simp only [fx, Nat.reduceAdd, forall_const]
  rw [Ai]
  refine ⟨fun h => ?_, fun h => ?_⟩
  case refine_2 =>
    have hge : i = V.length := by simp at h; omega
    refine hR _ _ ⟨?_, hf⟩
    rw [Gt fun j => ?_]
    by_cases hj : j < i
    · exact hV j hj
    · intro u hu
      have := (List.getElem?_eq_some_iff.1 hu).1
      omega
  have hlt : i < V.length := by simp at h; omega
  obtain ⟨a, ha⟩ : ∃ a, V[i]? = some a := ⟨_, List.getElem?_eq_getElem hlt⟩
  have hsz : Sep w z [] := (Sep.start w).old hf
  have hno : ∀ z, Fr [] w z → (¬ VAt V i) → R (.int .i64 70) z := fun z hz hb => hR _ _ ⟨by rw [VI fun h => hb (h i)], hz⟩
  have hro : ∀ u, Sep w u [] → Rows' Ar u.heap v V := fun u hu => hr.fr hu.fr0
  have hyes : ∀ z, Fr [] w z → VAt V i → ixs 33 v (.int .i64 (i : Int)) fun t48 => fad 32 t48 fun t49 => ld1 t49 z.heap fun t50 => bi .sub (.int .i64 (1048576 - sumV (V.take i))) t50 fun t51 => bi .add (.int .i64 (i : Int)) (.int .i64 1) fun t10 =>
      (∃ i : Nat, t10 = .int .i64 i ∧ i ≤ V.length ∧ t51 = .int .i64 (1048576 - sumV (V.take i)) ∧ (∀ j, j < i → VAt V j) ∧ Fr [] w z) ∧ (V.length - RowKit.intOf t10).toNat < (V.length - RowKit.intOf (.int .i64 (i : Int))).toNat := fun z hz hv => by
    refine YY (hr.fr hz) ha .i64 ?_
    obtain ⟨_, h2, h3⟩ := hv a ha
    try simp only [fx, Nat.reduceAdd, forall_const]
    rw [wi64 (by omega) (by omega), wi64 (by omega) (by omega)]
    refine ⟨⟨i + 1, by simp, by omega, ?_, fun j hj => ?_, hz⟩, by simp [RowKit.intOf] <;> omega⟩
    · rw [Ey ha]
      congr 1
      omega
    · by_cases hji : j < i
      · exact hV j hji
      · obtain rfl : j = i := by omega
        exact hv
  refine drH_S hsz fun z2 hz2 _ => ?_
  refine Abm hz2 hro ha .i64 ?_
  try simp only [fx, Nat.reduceAdd, forall_const]
  by_cases h1 : a.2 < 1
  · simp only [decide_eq_true h1, fx, Nat.reduceAdd, forall_const]
    exact hno _ hz2.fr0 fun hv => by have := (hv a ha).2.1; omega
  simp only [decide_eq_false h1, fx, Nat.reduceAdd, forall_const]
  refine ⟨fun y z => y = .bool (decide (1048576 - sumV (V.take i) < a.2)) ∧ Sep w z [], ?_, ?_⟩
  · refine Abm hz2 hro ha .i64 ?_
    try simp only [fx, Nat.reduceAdd, forall_const]
    exact ⟨by first | rfl | trivial, hz2⟩
  rintro _ z3 ⟨rfl, hz3⟩ _
  by_cases h2 : 1048576 - sumV (V.take i) < a.2
  · simp only [decide_eq_true h2, fx, Nat.reduceAdd, forall_const]
    exact hno _ hz3.fr0 fun hv => by have := (hv a ha).2.2; omega
  simp only [decide_eq_false h2, fx, Nat.reduceAdd, forall_const]
  by_cases h3 : i = 0
  · subst h3
    simp only [show decide ((0 : Int) < ((0 : Nat) : Int)) = false from rfl, show decide (((0 : Nat) : Int) > 0) = false from rfl, fx, Nat.reduceAdd, forall_const]
    have := hyes _ hz3.fr0 fun v hv => by
      rw [ha] at hv
      cases hv
      exact ⟨fun u h0 => absurd h0 (by omega), by omega, by omega⟩
    try simp only [fx, Nat.reduceAdd, forall_const] at this ⊢
    exact this
  have e3 : decide ((0 : Int) < (i : Int)) = true := decide_eq_true (by omega)
  have e4 : decide ((i : Int) > 0) = true := decide_eq_true (by omega)
  obtain ⟨u, hu⟩ : ∃ u, V[i - 1]? = some u := ⟨_, List.getElem?_eq_getElem (by omega)⟩
  simp only [e3, e4, fx, Nat.reduceAdd, forall_const]
  refine ⟨fun y z => y = .bool (!ltV u.1 a.1) ∧ Sep w z [], ?_, ?_⟩
  · rw [wi64 (by omega) (by omega), show (i : Int) - 1 = ((i - 1 : Nat) : Int) by omega]
    refine Qt hz3 hro hu .i64 ?_
    refine Qt hz3 hro ha .i64 ?_
    refine efS_i (cal_i (Ye u.1 a.1) ?_)
    rintro _ z4 ⟨rfl, hf4⟩
    have hz4 := hz3.old hf4
    refine ⟨hz4, ?_⟩
    try simp only [fx, Nat.reduceAdd, forall_const]
    exact ⟨by first | rfl | trivial, hz4⟩
  rintro _ z4 ⟨rfl, hz4⟩ _
  try simp only [fx, Nat.reduceAdd, forall_const]
  cases hlv : ltV u.1 a.1 with
  | false =>
    try simp only [fx, Nat.reduceAdd, forall_const]
    exact hno _ hz4.fr0 fun hv => by
      have := (hv a ha).1 u (by omega) hu
      rw [hlv] at this
      cases this
  | true =>
    try simp only [fx, Nat.reduceAdd, forall_const]
    have := hyes _ hz4.fr0 fun v hv => by
      rw [ha] at hv
      cases hv
      exact ⟨fun u' _ hu' => by rw [hu] at hu'; cases hu'; exact hlv, by omega, by omega⟩
    try simp only [fx, Nat.reduceAdd, forall_const] at this ⊢
    exact this
end
end Go.Fx
set_option linter.unusedVariables false
set_option linter.unusedSimpArgs false
namespace Go.Fx
section
variable {w0 w w' : World} {As : List Asn} {v : Value} {V : List Vt} {a0 : Option Addr} {c0 : Nat}
theorem Abx (hr : Rows' Ar w.heap v V) (hl : V.length ≤ 1000000) : cal P GZ [v] w fun r w' => r = .int .i64 (sumV (goodV V)) ∧ Fr [] w w' := by
  refine W2 fun R hR => ?_
  unfold Nv
  refine ⟨fun a b z => ∃ i : Nat, b = .int .i64 i ∧ i ≤ V.length ∧ a = .int .i64 (sumV ((goodV V).take i)) ∧ (i = 0 ∨ bagOk V) ∧ Fr [] w z, fun _ b _ => (V.length - RowKit.intOf b).toNat, ⟨0, rfl, by omega, by simp [sumV], .inl rfl, Fr.refl _ _⟩, ?_⟩
  rintro _ _ z ⟨i, rfl, hi, rfl, hb0, hf⟩ -
  rw [hr.len]
  try simp only [fx, Nat.reduceAdd, forall_const]
  refine Ie (decide ((i : Int) < V.length) && decide (bagE V = 0)) (fun u => Fr [] w u) (fun hd => ?_) (fun hd => ⟨by rw [hd]; rfl, hf⟩) ?_
  · refine cal_i (Qr (hr.fr hf) (by omega)) ?_
    rintro _ z1 ⟨rfl, hf1⟩
    try simp only [fx, Nat.reduceAdd, forall_const]
    refine ⟨?_, hf.trans hf1 (by simp) (by simp)⟩
    rw [hd, Bool.true_and]
    congr 1
  intro y z1 hy hf1 _
  rw [hy, Ai]
  refine ⟨fun h => ?_, fun h => ?_⟩
  · simp only [Bool.and_eq_true, decide_eq_true_eq] at h
    have hb := F6.1 h.2
    have hG : goodV V = V := by rw [goodV, if_pos hb]
    rw [hG]
    have hlt : i < V.length := by omega
    obtain ⟨a, ha⟩ : ∃ a, V[i]? = some a := ⟨_, List.getElem?_eq_getElem hlt⟩
    refine YY (hr.fr hf1) ha .i64 ?_
    have h1 := hb.sum i
    have h2 := hb.sum (i + 1)
    rw [Ey ha] at h2
    try simp only [fx, Nat.reduceAdd, forall_const]
    rw [wi64 (by omega) (by omega), wi64 (by omega) (by omega)]
    refine ⟨⟨i + 1, by simp, by omega, by rw [Ey ha], .inr hb, hf1⟩, by simp [RowKit.intOf] <;> omega⟩
  · refine hR _ _ ⟨?_, hf1⟩
    by_cases hb : bagOk V
    · have hG : goodV V = V := by rw [goodV, if_pos hb]
      rw [hG]
      have : ¬ (i : Int) < V.length := fun hq => by
        simp [Gt hb, hq] at h
      rw [List.take_of_length_le (by omega)]
    · have hG : goodV V = [] := by rw [goodV, if_neg hb]
      rw [hG]
      simp
theorem l7put (hr : Rows' Ar w.heap (.slice a0 V.length c0) V) (hc : V.length ≤ c0) (hb : bagOk V) (k : Vec 32) {n : Int} (hn0 : 0 ≤ n) (hn : n ≤ 1048576) (hl : V.length ≤ 1000000) :
    cal P LT [.slice a0 V.length c0, kv k, .int .i64 n] w fun r w' => Sep w w' [rows Ar r (putM V k n)] := by
  refine Aab fun R hR => ?_
  unfold R4
  refine bxQ (Sep.start w) fun g4 w1 hs1 => ?_
  try simp only [fx, Nat.reduceAdd, forall_const]
  rw [Ai]
  refine ⟨fun h => ?_, fun h => ?_⟩
  · have h : n = 0 := by simpa using h
    refine BR Dn Fy (by simp) (Sep.nilR (q := Ar) hs1) (hr.fr hs1.fr0) (vtOne _) (by simp; omega) (by simp; omega) fun v2 w2 hs2 => ?_
    rw [List.nil_append] at hs2
    refine hR _ _ ?_
    unfold putM
    rw [if_pos h]
    exact hs2.d1
  have hn1 : n ≠ 0 := by simpa using h
  refine ⟨fun y z => ∃ i : Nat, y = .int .i64 i ∧ i ≤ V.length ∧ (∀ j u, j < i → V[j]? = some u → ltV u.1 k = true) ∧ Sep w z [blk g4 (Rdr.cells (rVec 32) k).toArray Aa], fun y _ => (V.length - RowKit.intOf y).toNat, ⟨0, rfl, by omega, fun j u hj => by omega, hs1⟩, ?_⟩
  rintro _ z ⟨i, rfl, hi, hlt, hz⟩ -
  refine drH_S hz fun z1 hz1 _ => ?_
  have hro : ∀ u, Sep w u [blk g4 (Rdr.cells (rVec 32) k).toArray Aa] → Rows' Ar u.heap (.slice a0 V.length c0) V := fun u hu => hr.fr hu.fr0
  rw [Ui]
  obtain ⟨c, hcd⟩ : ∃ c : Bool, c = (match V[i]? with | some u => ltV u.1 k | none => false) := ⟨_, rfl⟩
  refine Ie (d := decide ((i : Int) < V.length)) c (fun u => Sep w u [blk g4 (Rdr.cells (rVec 32) k).toArray Aa]) (fun hd => ?_) (fun hd => ⟨?_, hz1⟩) ?_
  · have hlt2 : i < V.length := by simp at hd; omega
    obtain ⟨a, ha⟩ : ∃ a, V[i]? = some a := ⟨_, List.getElem?_eq_getElem hlt2⟩
    refine Qt hz1 hro ha .i64 ?_
    refine ⟨kv k, fun u hu => (Ah (Sep.blk hu) _).mpr rfl, ?_⟩
    refine efS_i (cal_i (Ye a.1 k) ?_)
    rintro _ z2 ⟨rfl, hf2⟩
    have hz2 := hz1.old hf2
    rw [ha] at hcd
    exact ⟨hz2, by rw [hcd], hz2⟩
  · rw [hcd, List.getElem?_eq_none (by simp at hd; omega)]
  intro y z2 hy hz2 _
  rw [hy, Ai]
  refine ⟨fun h2 => ?_, fun h2 => ?_⟩
  · have hlt2 : i < V.length := by
      rcases Nat.lt_or_ge i V.length with hq | hq
      · exact hq
      · rw [List.getElem?_eq_none hq] at hcd
        rw [hcd] at h2
        cases h2
    rw [UC, wi64 (by omega) (by omega)]
    refine ⟨⟨i + 1, by simp, by omega, fun j u hj hu => ?_, hz2⟩, by simp [RowKit.intOf] <;> omega⟩
    by_cases hji : j < i
    · exact hlt j u hji hu
    · obtain rfl : j = i := by omega
      rw [hu] at hcd
      exact hcd.symm.trans h2
  · have hah : ahead V k = i := AeD hlt hi fun u hu => by rw [hu] at hcd; exact hcd.symm.trans h2
    rw [P1 (by omega)]
    have htk : (V.take i).length = i := by rw [List.length_take]; omega
    have hrt : ∀ {u : World}, Fr [] w u → Rows' Ar u.heap (.slice a0 i c0) (V.take i) := fun hf => Rows'.take (hr.fr hf) hi c0
    refine BR Dn Fy (by simp) (Sep.nilR (q := Ar) hz2) (hrt hz2.fr0) (vtOne _) (by rw [htk]; simp; omega) (by rw [htk]; simp; omega) fun v3 z3 hz3 => ?_
    rw [List.nil_append] at hz3
    obtain ⟨⟨n', i'⟩, hni⟩ : ∃ pr : Int × Nat, pr = (match V[i]? with | some u => if u.1 = k then (n + u.2, i + 1) else (n, i) | none => (n, i)) := ⟨_, rfl⟩
    have hput : putM V k n = V.take i ++ ((k, n') :: V.drop i') := by
      unfold putM
      rw [if_neg hn1, hah]
      congr 1
      cases hu : V[i]? with
      | none =>
        rw [hu] at hni
        simp only [Prod.mk.injEq] at hni
        have hq : V.drop i = [] := List.drop_eq_nil_of_le (List.getElem?_eq_none_iff.1 hu)
        rw [hni.1, hni.2, hq]
      | some u =>
        rw [hu] at hni
        simp only at hni ⊢
        split at hni
        · rename_i hk
          simp only [Prod.mk.injEq] at hni
          rw [if_pos hk, hni.1, hni.2]
        · rename_i hk
          simp only [Prod.mk.injEq] at hni
          rw [if_neg hk, hni.1, hni.2]
    have hi' : i' ≤ V.length := by
      cases hu : V[i]? with
      | none => rw [hu] at hni; simp only [Prod.mk.injEq] at hni; omega
      | some u =>
        have := (List.getElem?_eq_some_iff.1 hu).1
        rw [hu] at hni
        simp only at hni
        split at hni <;> (simp only [Prod.mk.injEq] at hni; omega)
    refine ⟨fun a b z => a = .int .i64 n' ∧ b = .int .i64 i' ∧ Sep w z [rows Ar v3 (V.take i), blk g4 (Rdr.cells (rVec 32) k).toArray Aa], ?_, ?_⟩
    · refine drw_s hz3 fun z4 hz4 _ => ?_
      rw [Ui]
      obtain ⟨c2, hc2⟩ : ∃ c2 : Bool, c2 = (match V[i]? with | some u => decide (u.1 = k) | none => false) := ⟨_, rfl⟩
      refine Ie (d := decide ((i : Int) < V.length)) c2 (fun u => Sep w u [rows Ar v3 (V.take i), blk g4 (Rdr.cells (rVec 32) k).toArray Aa]) (fun hd => ?_) (fun hd => ⟨?_, hz4⟩) ?_
      · have hlt2 : i < V.length := by simp at hd; omega
        obtain ⟨a, ha⟩ : ∃ a, V[i]? = some a := ⟨_, List.getElem?_eq_getElem hlt2⟩
        have hra : Rows' Ar z4.heap (.slice a0 V.length c0) V := hr.fr hz4.fr0
        obtain ⟨g, o, c, hform⟩ := hra.form (by decide) ha
        cases hform
        rw [show (33 : Nat) = (Ar).size from rfl, Dh _ _ _ _ _ _ _ _ (by omega) (by omega), Int.toNat_natCast]
        try simp only [fx, Nat.reduceAdd, forall_const]
        refine (Lm (At.of (by decide) hra ha) _).mpr ?_
        simp only [Ah (Sep.blk hz4.p1), BP]
        rw [ha] at hc2
        exact ⟨by rw [hc2], hz4⟩
      · rw [hc2, List.getElem?_eq_none (by simp at hd; omega)]
      intro y5 z5 hy5 hz5 _
      rw [hy5, Ai]
      refine ⟨fun h3 => ?_, fun h3 => ?_⟩
      · obtain ⟨u, hu, huk⟩ : ∃ u, V[i]? = some u ∧ u.1 = k := by
          cases hu : V[i]? with
          | none =>
            rw [hu] at hc2
            exact Bool.noConfusion (show false = true from hc2.symm.trans h3)
          | some u =>
            rw [hu] at hc2
            exact ⟨u, rfl, of_decide_eq_true (hc2.symm.trans h3)⟩
        rw [hu] at hni
        simp only [if_pos huk, Prod.mk.injEq] at hni
        have hub := hb i u hu
        have hs0 := hb.sum i
        refine YY (hr.fr hz5.fr0) hu .i64 ?_
        try simp only [fx, Nat.reduceAdd, forall_const]
        rw [wi64 (by omega) (by omega), wi64 (by omega) (by omega)]
        exact ⟨by rw [hni.1], by rw [hni.2]; simp, hz5⟩
      · have hno : (n', i') = (n, i) := by
          rw [hni]
          cases hu : V[i]? with
          | none => rfl
          | some u =>
            rw [hu] at hc2
            have : ¬ u.1 = k := of_decide_eq_false (hc2.symm.trans h3)
            simp only [if_neg this]
        simp only [Prod.mk.injEq] at hno
        exact ⟨by rw [hno.1], by rw [hno.2], hz5⟩
    rintro _ _ z6 ⟨rfl, rfl, hz6⟩ _
    refine drH_S hz6 fun z7 hz7 _ => ?_
    refine ⟨kv k, fun u hu => (Ah (Sep.blk hu.p1) _).mpr rfl, ?_⟩
    refine ⟨.agg (Rdr.cells Ar (k, n')).toArray, fun u hu => by rw [Gv], ?_⟩
    change slc _ _ _ _ _
    rw [YE hi']
    refine Ej (Cz (q := Ar) (l := [((k, n') : Vt)]) (V := fun c => .agg (Rdr.cells Ar c).toArray) hz7 Dn (fun a => rfl) rfl rfl (by decide) (by decide) fun g9 z8 hz8 => ?_)
    refine Ej (BR Dn Fy (by simp) hz8.p1 (Sep.rows hz8) (vtOne _) (by simp only [htk, List.length_singleton]; omega) (by simp only [htk, List.length_singleton]; omega) fun v9 z9 hz9 => ?_)
    have hrd := Rows'.drop (hr.fr hz9.fr0) (k := i') hi' hc (c0 - i')
    have hdl : (V.drop i').length = V.length - i' := List.length_drop ..
    refine Ej (BR Dn Fy (by simp) hz9 hrd (vtOne _) (by simp only [List.length_append, htk, List.length_singleton, hdl]; omega) (by simp only [List.length_append, htk, List.length_singleton, hdl]; omega) fun v10 z10 hz10 => ?_)
    refine hR _ _ ?_
    rw [hput]
    simp only [List.append_assoc, List.singleton_append] at hz10
    exact hz10.d1.d1
theorem l7Add (hr : Rows' Ar w.heap (.slice a0 V.length c0) V) (hc : V.length ≤ c0) (k : Vec 32) (n : Int) (hl : V.length ≤ 1000000) (hn : n ≤ 9223372036854775807) :
    cal P Mc [.slice a0 V.length c0, kv k, .int .i64 n] w fun r w' => ∃ v', r = .tuple #[v', .int .i64 (addB V k n).2] ∧ Sep w w' [rows Ar v' (addB V k n).1] := by
  refine AaO fun R hR => ?_
  unfold R0
  refine bxQ (Sep.start w) fun g4 w1 hs1 => ?_
  refine cal_i (Qr (hr.fr hs1.fr0) (by omega)) ?_
  rintro _ w2 ⟨rfl, hf2⟩
  have hs2 := hs1.old hf2
  try simp only [fx, Nat.reduceAdd, forall_const]
  have hnil : ∀ {z : World} {e : Int}, addB V k n = ([], e) → Sep w z [blk g4 (Rdr.cells (rVec 32) k).toArray Aa] → R (.tuple #[.slice none 0 0, .int .i64 e]) z := fun he hz =>
    hR _ _ ⟨.slice none 0 0, by rw [he], by rw [he]; exact (Sep.nilR hz).d1⟩
  rw [Ai]
  refine ⟨fun h => ?_, fun h => ?_⟩
  · have h : bagE V ≠ 0 := by simpa using h
    exact hnil (by rw [addB, if_pos h]) hs2
  have hE : ¬ bagE V ≠ 0 := by simpa using h
  have hb : bagOk V := F6.1 (by simpa using h)
  rw [Ai]
  refine ⟨fun h => ?_, fun h => ?_⟩
  · have h : n < 0 := by simpa using h
    exact hnil (by rw [addB, if_neg hE, if_pos h]) hs2
  have hn0 : ¬ n < 0 := by simpa using h
  refine cal_i (Abx (hr.fr hs2.fr0) hl) ?_
  rintro _ w3 ⟨rfl, hf3⟩
  have hs3 := hs2.old hf3
  have hG : goodV V = V := by rw [goodV, if_pos hb]
  have hsm := hb.sum V.length
  rw [List.take_of_length_le (Nat.le_refl _)] at hsm
  rw [hG]
  try simp only [fx, Nat.reduceAdd, forall_const]
  rw [wi64 (by omega) (by omega), Ai]
  refine ⟨fun h => ?_, fun h => ?_⟩
  · have h : 1048576 - sumV V < n := by simpa using h
    exact hnil (by rw [addB, if_neg hE, if_neg hn0, if_pos h]) hs3
  have hn1 : ¬ 1048576 - sumV V < n := by simpa using h
  simp only [Ah (Sep.blk hs3)]
  refine cal_i (l7put (hr.fr hs3.fr0) hc hb k (by omega) (by omega) hl) ?_
  rintro v4 w4 hs4
  replace hs4 := hs3.join hs4
  have he : addB V k n = (putM V k n, 0) := by rw [addB, if_neg hE, if_neg hn0, if_neg hn1]
  exact hR _ _ ⟨v4, by rw [he], by rw [he]; exact hs4.d1⟩
end
end Go.Fx
set_option linter.unusedVariables false
set_option linter.unusedSimpArgs false
namespace Go.Fx
abbrev TN := Vec 32 × Blk × Value × Nat
def TN.ent (x : TN) : Ent 32 := (x.1, bq x.2.1 x.2.2.1, x.2.2.2)
structure Tr where
  root : Vec 32
  ht : Int
  most : Int
def Bn (k : Vec 32) (N : List TN) : Option TN := N.find? fun x => decide (k = x.1)
def blkOf (k : Vec 32) (N : List TN) : Option Blk := (Bn k N).map (·.2.1)
theorem Lj (k : Vec 32) : ∀ N : List TN, getE k (N.map TN.ent) = (Bn k N).map fun x => bq x.2.1 x.2.2.1
  | [] => rfl
  | x :: N => by
    unfold getE Bn
    rw [List.map_cons, List.find?_cons, List.find?_cons]
    by_cases h : k = x.1
    · simp [h, TN.ent]
    · have e1 : decide (k = (TN.ent x).1) = false := decide_eq_false h
      have e2 : decide (k = x.1) = false := decide_eq_false h
      rw [e1, e2]
      exact Lj k N
theorem KT : KeyT P Aa DK 32 := ⟨St, Ho, by kernel_rfl, by kernel_rfl, IW⟩
theorem zB (w : World) : (zeroValue Al).run P w = .ok (bq Blk.none (.slice none 0 0)) w := by kernel_rfl
structure EOk (E : List (Ent 32)) (N : List TN) (c : Nat) : Prop where
  pm : (E.map (·.1)).Perm (N.map (·.1))
  nd : (E.map (·.1)).Nodup
  get : ∀ k, getE k E = getE k (N.map TN.ent)
  bn : (E.map (·.2.2)).Nodup
  lt : ∀ x ∈ E, x.2.2 < c
theorem EOk.nil (c : Nat) : EOk [] [] c := ⟨List.Perm.refl _, by simp, fun _ => rfl, by simp, fun x hx => by cases hx⟩
theorem EOk.len {E : List (Ent 32)} {N : List TN} {c : Nat} (h : EOk E N c) : E.length = N.length := by
  have := h.pm.length_eq
  simpa using this
def mpN (gm : Nat) (N : List TN) (c : Nat) : Asn := Asn.ex fun E => (Asn.pr (EOk E N c)).star (mp gm E c)
theorem Sv {w0 w : World} {As : List Asn} {gm c : Nat} {N : List TN} (h : Sep w0 w (mpN gm N c :: As)) : ∃ E, EOk E N c ∧ Sep w0 w (mp gm E c :: As) := by
  unfold mpN at h
  rw [GX] at h
  obtain ⟨E, h⟩ := h
  rw [Iw, Mm] at h
  exact ⟨E, h.1, h.2⟩
theorem Lg {w0 w : World} {As : List Asn} {gm c : Nat} {N : List TN} {E : List (Ent 32)} (hE : EOk E N c) (h : Sep w0 w (mp gm E c :: As)) : Sep w0 w (mpN gm N c :: As) := by
  unfold mpN
  rw [GX]
  exact ⟨E, by rw [Iw, Mm]; exact ⟨hE, h⟩⟩
theorem X7 {n : Nat} {k : Vec n} {l : List (Ent n)} : (getE k l).isSome = true ↔ k ∈ l.map (·.1) := by
  unfold getE
  rw [Option.isSome_map, List.find?_isSome]
  constructor
  · rintro ⟨x, hx, h⟩
    have : k = x.1 := by simpa using h
    exact this ▸ List.mem_map_of_mem hx
  · intro h
    obtain ⟨x, hx, rfl⟩ := List.mem_map.1 h
    exact ⟨x, hx, by simp⟩
theorem Lu {n : Nat} {k : Vec n} {H : List (Ent n)} {x : Ent n} : getE k (H ++ [x]) = (getE k H).or (if k = x.1 then some x.2.1 else none) := by
  unfold getE
  rw [List.find?_append]
  cases hf : List.find? (fun x => decide (k = x.1)) H with
  | some y => simp
  | none =>
    by_cases h : k = x.1 <;> simp [h]
theorem LI {n : Nat} (p : Vec n → Bool) (k : Vec n) : ∀ l : List (Ent n), getE k (l.filter fun x => p x.1) = if p k = true then getE k l else none
  | [] => by simp [getE]
  | x :: N => by
    have ih := LI p k N
    unfold getE at ih ⊢
    by_cases hk : k = x.1
    · subst hk
      by_cases hp : p x.1 = true
      · rw [List.filter_cons_of_pos (p := fun x : Ent n => p x.1) hp, if_pos hp]
        simp
      · rw [List.filter_cons_of_neg (p := fun x : Ent n => p x.1) hp, ih, if_neg hp, if_neg hp]
    · rw [List.find?_cons_of_neg (by simpa using hk), ← ih]
      by_cases hp : p x.1 = true
      · rw [List.filter_cons_of_pos (p := fun x : Ent n => p x.1) hp, List.find?_cons_of_neg (by simpa using hk)]
      · rw [List.filter_cons_of_neg (p := fun x : Ent n => p x.1) hp]
theorem YX {n : Nat} {k : Vec n} {H : List (Ent n)} (h : k ∉ H.map (·.1)) : getE k H = none := by
  cases hg : getE k H with
  | none => rfl
  | some x => exact absurd (X7.1 (by rw [hg]; rfl)) h
theorem EOk.add {E : List (Ent 32)} {N : List TN} {c c' : Nat} {k : Vec 32} {b : Blk} {v : Value} (h : EOk E N c) (hk : getE k (N.map TN.ent) = none) : EOk (E ++ [(k, bq b v, c)]) (N ++ [(k, b, v, c')]) (c + 1) := by
  have hkE : k ∉ E.map (·.1) := fun hm => by
    have := X7.2 hm
    rw [h.get, hk] at this
    cases this
  refine ⟨?_, ?_, fun k' => ?_, ?_, fun x hx => ?_⟩
  · rw [List.map_append, List.map_append]
    exact h.pm.append_right _
  · rw [List.map_append, List.nodup_append]
    refine ⟨h.nd, by simp, fun x hx y hy he => ?_⟩
    simp only [List.map_cons, List.map_nil, List.mem_singleton] at hy
    subst hy
    exact hkE (he ▸ hx)
  · rw [List.map_append, List.map_singleton, Lu, Lu, h.get]
    rfl
  · rw [List.map_append, List.nodup_append]
    refine ⟨h.bn, by simp, fun x hx y hy he => ?_⟩
    simp only [List.map_cons, List.map_nil, List.mem_singleton] at hy
    subst hy
    obtain ⟨z, hz, rfl⟩ := List.mem_map.1 hx
    have := h.lt z hz
    omega
  · rcases List.mem_append.1 hx with hx | hx
    · have := h.lt x hx; omega
    · obtain rfl : x = (k, bq b v, c) := by simpa using hx
      show c < c + 1
      omega
theorem EOk.filter {E : List (Ent 32)} {N : List TN} {c : Nat} (p : Vec 32 → Bool) (h : EOk E N c) : EOk (E.filter fun x => p x.1) (N.filter fun x => p x.1) c := by
  have e1 : (E.filter fun x => p x.1).map (·.1) = (E.map (·.1)).filter p := by rw [List.filter_map]; rfl
  have e2 : (N.filter fun x => p x.1).map (·.1) = (N.map (·.1)).filter p := by rw [List.filter_map]; rfl
  have e3 : (N.filter fun x => p x.1).map TN.ent = (N.map TN.ent).filter fun x => p x.1 := by rw [List.filter_map]; rfl
  refine ⟨by rw [e1, e2]; exact h.pm.filter p, by rw [e1]; exact h.nd.sublist List.filter_sublist, fun k => ?_, h.bn.sublist (List.filter_sublist.map _), fun x hx => h.lt x (List.mem_filter.1 hx).1⟩
  rw [LI, e3, LI, h.get]
abbrev tq (t : Tr) (gm : Nat) (ov : Value) : Bool × Vec 32 × Int × Int × Value × Value := (true, t.root, t.ht, t.most, .map (some gm), ov)
structure TrR (h : Heap) (g gm : Nat) (ov : Value) (t : Tr) (N : List TN) (c : Nat) : Prop where
  cell : ∃ T fr, h[g]? = some (.cells (Rdr.cells AJ (tq t gm ov)).toArray T fr)
  map : ∃ E, EOk E N c ∧ h[gm]? = some (.map (ents E) c)
  ord : Rows' (rVec 32) h ov (N.map (·.1))
  dat : ∀ x ∈ N, RdB h x.2.2.1 x.2.1.d
section
variable {w0 w w' : World} {As : List Asn} {g gm c : Nat} {ov : Value} {t : Tr} {N : List TN}
theorem TrR.fr (h : TrR w.heap g gm ov t N c) (hf : Fr [] w w') : TrR w'.heap g gm ov t N c := by
  obtain ⟨T, fr, hc⟩ := h.cell
  obtain ⟨E, hE, hm⟩ := h.map
  exact ⟨⟨T, fr, hf.blk hc (by simp)⟩, ⟨E, hE, hf.blk hm (by simp)⟩, h.ord.fr hf, fun x hx => (h.dat x hx).fr hf (DA _)⟩
theorem TrR.look (hr : TrR w.heap g gm ov t N c) (k : Vec 32) (K : Value → Prop) : rdP P (Instr.lookup AO (.map (some gm)) (kv k) true) w K =
    K (.tuple #[(getE k (N.map TN.ent)).getD (bq Blk.none (.slice none 0 0)), .bool (getE k (N.map TN.ent)).isSome]) := by
  obtain ⟨E, hE, hm⟩ := hr.map
  rw [UG B4 KT (zB w) hm k, hE.get]
theorem TrR.look1 (hr : TrR w.heap g gm ov t N c) (k : Vec 32) (K : Value → Prop) : rdP P (Instr.lookup AO (.map (some gm)) (kv k) false) w K =
    K ((getE k (N.map TN.ent)).getD (bq Blk.none (.slice none 0 0))) := by
  obtain ⟨E, hE, hm⟩ := hr.map
  rw [RH B4 KT (zB w) hm k, hE.get]
theorem TrR.mlen {ty : TypeId} (hr : TrR w.heap g gm ov t N c) (hl : N.length ≤ 9223372036854775807) (K : Value → Prop) : rdP P (Builtin.len_ #[AO] ty #[.map (some gm)]) w K = K (.int .i64 N.length) := by
  obtain ⟨E, hE, hm⟩ := hr.map
  rw [AfD B4 hm (by rw [hE.len]; exact hl), hE.len]
theorem Sep.tr (h : Sep w0 w As) (hr : TrR w0.heap g gm ov t N c) : TrR w.heap g gm ov t N c := hr.fr h.1
theorem Es (hr : TrR w.heap g gm ov t N c) : cal P B3 [.pointer (some ⟨g, 0, none⟩)] w fun r w' => r = .bool false ∧ w = w' := by
  refine Te fun R hR => ?_
  unfold KA
  obtain ⟨T, fr, hc⟩ := hr.cell
  simp only [fx, Nat.reduceAdd, forall_const, Option.isNone_some, C7 hc, BZ hc, BJ hc, Bx hc, BQ hc, A0 hc, BC hc]
  exact hR _ _ ⟨rfl, rfl⟩
def nb (k : Vec 32) (N : List TN) : Blk × Value := ((Bn k N).map fun x => (x.2.1, x.2.2.1)).getD (Blk.none, .slice none 0 0)
theorem Mp (k : Vec 32) (N : List TN) : (getE k (N.map TN.ent)).getD (bq Blk.none (.slice none 0 0)) = bq (nb k N).1 (nb k N).2 := by
  rw [Lj]
  unfold nb
  cases Bn k N <;> rfl
theorem nb_is (k : Vec 32) (N : List TN) : (getE k (N.map TN.ent)).isSome = (blkOf k N).isSome := by
  rw [Lj]
  unfold blkOf
  cases Bn k N <;> rfl
theorem nb_rd (hr : TrR w.heap g gm ov t N c) (k : Vec 32) : RdB w.heap (nb k N).2 (nb k N).1.d := by
  unfold nb
  cases h : Bn k N with
  | none => exact rdNil w
  | some x => exact hr.dat x (List.mem_of_find?_eq_some h)
theorem Tz {k : Vec 32} {N : List TN} : (blkOf k N = none ∧ (nb k N).1 = Blk.none) ∨ blkOf k N = some (nb k N).1 := by
  unfold nb blkOf
  cases Bn k N with
  | none => exact .inl ⟨rfl, rfl⟩
  | some x => exact .inr rfl
def levH (t : Tr) (N : List TN) (k : Vec 32) : Int := if k = t.root then t.ht else match blkOf k N with
  | some b => b.h
  | none => 0
def has (t : Tr) (N : List TN) (k : Vec 32) : Bool := decide (k = t.root) || (blkOf k N).isSome
theorem Uz (hr : TrR w.heap g gm ov t N c) (k : Vec 32) : cal P EN [.pointer (some ⟨g, 0, none⟩), kv k] w fun r w' => r = .tuple #[.int .i64 (levH t N k), .bool (has t N k)] ∧ Fr [] w w' := by
  refine Rk fun R hR => ?_
  unfold JI
  refine bxQ (Sep.start w) fun g3 w1 hs1 => ?_
  refine cal_i (Es (hs1.tr hr)) ?_
  rintro _ _ ⟨rfl, rfl⟩
  simp only [fx, Nat.reduceAdd, forall_const]
  refine drw_s hs1 fun w2 hs2 _ => ?_
  obtain ⟨T, fr, hc⟩ := (hs2.tr hr).cell
  simp only [fx, Nat.reduceAdd, forall_const, Ah hs2.blk, C7 hc, BZ hc, BJ hc, Bx hc, BQ hc, A0 hc, BC hc, BP]
  rw [Ai]
  refine ⟨fun h => ?_, fun h => ?_⟩
  · have h : k = t.root := by simpa using h
    refine hR _ _ ⟨?_, hs2.fr0⟩
    unfold levH has
    rw [if_pos h, decide_eq_true h]
    rfl
  · have h : ¬ k = t.root := by simpa using h
    refine drH_S hs2 fun w3 hs3 _ => ?_
    refine AG (v := .map (some gm)) (fun u hu K hk => by
      obtain ⟨T, fr, hc⟩ := (hu.tr hr).cell
      exact (A0 hc K).mpr hk) ?_
    refine ⟨kv k, fun u hu => (Ah hu.blk _).mpr rfl, ?_⟩
    refine ⟨.tuple #[(getE k (N.map TN.ent)).getD (bq Blk.none (.slice none 0 0)), .bool (getE k (N.map TN.ent)).isSome], fun u hu => ((hu.tr hr).look k _).mpr rfl, ?_⟩
    rw [Mp, nb_is]
    simp only [fx, Nat.reduceAdd, forall_const]
    refine efS_i (Ax hs3 (Bt w3) fun g4 w4 hs4 => ⟨hs4.tail, ?_⟩)
    refine A3 (Bd hs4 (A8 (nb_rd (hs4.tr hr) k).one) fun w5 hs5 => ?_)
    simp only [fx, Nat.reduceAdd, forall_const, Az hs5.blk, Ak hs5.blk, Am hs5.blk, Aw hs5.blk]
    refine hR _ _ ⟨?_, hs5.fr0⟩
    unfold levH has
    rw [if_neg h, decide_eq_false h, Bool.false_or]
    rcases Tz (k := k) (N := N) with ⟨h1, h2⟩ | h1
    · rw [h1, h2]; rfl
    · rw [h1]
theorem Gi (hr : TrR w.heap g gm ov t N c) (k : Vec 32) : cal P Ce [.pointer (some ⟨g, 0, none⟩), kv k] w fun r w' => r = .bool (has t N k) ∧ Fr [] w w' := by
  refine UW fun R hR => ?_
  unfold Lf
  refine bxQ (Sep.start w) fun g3 w1 hs1 => ?_
  simp only [Ah hs1.blk]
  refine cal_i (Uz (hs1.tr hr) k) ?_
  rintro _ w2 ⟨rfl, hf2⟩
  simp only [fx, Nat.reduceAdd, forall_const]
  exact hR _ _ ⟨rfl, (hs1.old hf2).fr0⟩
theorem IQ (hr : TrR w.heap g gm ov t N c) : cal P CW [.pointer (some ⟨g, 0, none⟩)] w fun r w' => r = .tuple #[kv t.root, .int .i64 t.ht] ∧ Fr [] w w' := by
  refine Tp fun R hR => ?_
  unfold J8
  refine Ax (Sep.start w) (AP w) fun g3 w1 hs1 => ?_
  refine cal_i (Es (hs1.tr hr)) ?_
  rintro _ _ ⟨rfl, rfl⟩
  simp only [fx, Nat.reduceAdd, forall_const]
  refine ⟨fun u => ∃ v, Sep w u [blk g3 (Rdr.cells (rVec 32) v).toArray Aa], ⟨_, hs1.drew _⟩, ?_⟩
  refine ⟨kv t.root, fun u ⟨v, hu⟩ => by
    obtain ⟨T, fr, hc⟩ := (hu.tr hr).cell
    exact (BJ hc _).mpr rfl, ?_⟩
  refine AG (v := .int .i64 t.ht) (fun u ⟨v, hu⟩ K hk => by
    obtain ⟨T, fr, hc⟩ := (hu.tr hr).cell
    exact (Bx hc K).mpr hk) ?_
  refine efS_i (AB (hs1.drew _) fun w3 hs3 => ⟨⟨_, hs3⟩, ?_⟩)
  simp only [Ah hs3.blk]
  exact hR _ _ ⟨rfl, hs3.fr0⟩
end
end Go.Fx
set_option linter.unusedVariables false
set_option linter.unusedSimpArgs false
namespace Go.Fx
structure TrW (t : Tr) (N : List TN) : Prop where
  up : ∀ k b, blkOf k N = some b → has t N b.p = true ∧ b.h = levH t N b.p + 1
  above : ∀ k b, blkOf k N = some b → t.ht < b.h
  noroot : blkOf t.root N = none
  small : ∀ x ∈ N, x.2.1.d.length ≤ 200
def upOf (k : Vec 32) (N : List TN) : Vec 32 := (nb k N).1.p
def wayUp (t : Tr) (N : List TN) : Nat → Vec 32 → List (Vec 32)
  | 0, _ => []
  | n + 1, k => if k = t.root then [] else k :: wayUp t N n (upOf k N)
def hgt (t : Tr) (N : List TN) (k : Vec 32) : Nat := (levH t N k - t.ht).toNat
theorem D6 {t : Tr} {N : List TN} {k : Vec 32} (h : has t N k = true) (hk : k ≠ t.root) : blkOf k N = some (nb k N).1 := by
  unfold has at h
  rw [decide_eq_false hk, Bool.false_or] at h
  rcases Tz (k := k) (N := N) with ⟨h1, _⟩ | h1
  · rw [h1] at h; cases h
  · exact h1
theorem Fo {t : Tr} {N : List TN} {k : Vec 32} (hw : TrW t N) (h : has t N k = true) (hk : k ≠ t.root) : has t N (upOf k N) = true ∧ hgt t N k = hgt t N (upOf k N) + 1 := by
  have hb := D6 h hk
  obtain ⟨h1, h2⟩ := hw.up k _ hb
  have h3 := hw.above k _ hb
  refine ⟨h1, ?_⟩
  have e : levH t N k = (nb k N).1.h := by
    unfold levH
    rw [if_neg hk, hb]
  have h4 : t.ht ≤ levH t N (upOf k N) := by
    by_cases hr : upOf k N = t.root
    · unfold levH; rw [if_pos hr]; omega
    · have hb2 := D6 (show has t N (upOf k N) = true from h1) hr
      have := hw.above _ _ hb2
      unfold levH
      rw [if_neg hr, hb2]
      simp only
      omega
  unfold hgt
  rw [e, h2]
  show (levH t N (upOf k N) + 1 - t.ht).toNat = _
  omega
section
variable {w0 w w' : World} {As : List Asn} {g gm c : Nat} {ov : Value} {t : Tr} {N : List TN}
theorem AeL (hr : TrR w.heap g gm ov t N c) (hw : TrW t N) (k : Vec 32) : cal P HV [.pointer (some ⟨g, 0, none⟩), kv k] w fun r w' => ∃ v, r = .tuple #[bq (nb k N).1 v, .int .i64 (if (blkOf k N).isSome then 0 else 4)] ∧ Sep w w' [ownB v (nb k N).1.d] := by
  refine UR fun R hR => ?_
  unfold Lz
  refine bxQ (Sep.start w) fun g3 w1 hs1 => ?_
  refine Ax hs1 (Bt w1) fun g4 w2 hs2 => ?_
  refine cal_i (Es (hs2.tr hr)) ?_
  rintro _ _ ⟨rfl, rfl⟩
  simp only [fx, Nat.reduceAdd, forall_const]
  refine drH_S hs2 fun w3 hs3 _ => ?_
  refine AG (v := .map (some gm)) (fun u hu K hk => by
    obtain ⟨T, fr, hc⟩ := (hu.tr hr).cell
    exact (A0 hc K).mpr hk) ?_
  refine ⟨kv k, fun u hu => (Ah (Sep.p1 hu).blk _).mpr rfl, ?_⟩
  refine ⟨.tuple #[(getE k (N.map TN.ent)).getD (bq Blk.none (.slice none 0 0)), .bool (getE k (N.map TN.ent)).isSome], fun u hu => ((hu.tr hr).look k _).mpr rfl, ?_⟩
  rw [Mp, nb_is]
  simp only [fx, Nat.reduceAdd, forall_const]
  refine efS_i (Ax hs3 (Bt w3) fun g5 w4 hs4 => ⟨hs4.tail, ?_⟩)
  refine A3 (Bd hs4 (A8 (nb_rd (hs4.tr hr) k).one) fun w5 hs5 => ?_)
  rw [Ai]
  refine ⟨fun h => ?_, fun h => ?_⟩
  · have h : (blkOf k N).isSome = false := by simpa using h
    rw [GQ]
    refine Bd hs5.p1 (A8 rfl) fun w6 hs6 => ?_
    simp only [Az hs6.blk, Ak hs6.blk, Am hs6.blk, Aw hs6.blk]
    rcases Tz (k := k) (N := N) with ⟨h1, h2⟩ | h1
    · refine hR _ _ ⟨.slice none 0 0, by rw [h2, h]; rfl, ?_⟩
      rw [h2]
      exact ((Sep.start w).old hs6.fr0).nil
    · rw [h1] at h; cases h
  · have h : (blkOf k N).isSome = true := by simpa using h
    simp only [Az hs5.blk, Ak hs5.blk, Am hs5.blk, Aw hs5.blk]
    have hrd := nb_rd (hs5.tr hr) k
    have hl : (nb k N).1.d.length ≤ 200 := by
      unfold nb
      cases hx : Bn k N with
      | none => simp [Blk.none]
      | some x => exact hw.small x (List.mem_of_find?_eq_some hx)
    refine cal_i (KK hrd (by omega)) ?_
    rintro _ w6 ⟨v6, rfl, hs6⟩
    replace hs6 := hs5.join hs6
    refine Bd hs6.p2 (A8 (Sep.one hs6)) fun w7 hs7 => ?_
    simp only [Az hs7.blk, Ak hs7.blk, Am hs7.blk, Aw hs7.blk]
    exact hR _ _ ⟨v6, by rw [h]; rfl, Sep.dropR (As := [ownB v6 _]) hs7.p1⟩
theorem AeI (hr : TrR w.heap g gm ov t N c) (hl : N.length ≤ 1000000) : cal P Hz [.pointer (some ⟨g, 0, none⟩)] w fun r w' => r = .int .i64 N.length ∧ w = w' := by
  refine TJ fun R hR => ?_
  unfold Lp
  refine cal_i (Es hr) ?_
  rintro _ _ ⟨rfl, rfl⟩
  obtain ⟨T, fr, hc⟩ := hr.cell
  simp only [fx, Nat.reduceAdd, forall_const, C7 hc, BZ hc, BJ hc, Bx hc, BQ hc, A0 hc, BC hc]
  rw [hr.mlen (by omega)]
  exact hR _ _ ⟨rfl, rfl⟩
theorem Abu : ∀ {a b : List UInt8}, bvs a = bvs b → a = b
  | [], [], _ => rfl
  | [], _ :: _, h => by simp [bvs] at h
  | _ :: _, [], h => by simp [bvs] at h
  | x :: a, y :: b, h => by
    simp only [bvs, List.map_cons, List.cons.injEq, bv, Value.int.injEq, true_and] at h
    have hx : x = y := UInt8.toNat_inj.1 (by have := h.1; omega)
    rw [hx, Abu (a := a) (b := b) h.2]
noncomputable def keyAt (g : Nat) (z : World) : Vec 32 :=
  open Classical in if h : ∃ k : Vec 32, z.heap[g]? = some (.cells (Rdr.cells (rVec 32) k).toArray Aa (0, 0)) then Classical.choose h else vz 32
theorem Gf {g : Nat} {z : World} {k : Vec 32} (h : z.heap[g]? = some (.cells (Rdr.cells (rVec 32) k).toArray Aa (0, 0))) : keyAt g z = k := by
  have hx : ∃ k : Vec 32, z.heap[g]? = some (.cells (Rdr.cells (rVec 32) k).toArray Aa (0, 0)) := ⟨k, h⟩
  unfold keyAt
  rw [dif_pos hx]
  have h2 := Classical.choose_spec hx
  generalize Classical.choose hx = k' at h2 ⊢
  rw [h] at h2
  simp only [Option.some.injEq, Obj.cells.injEq, and_true] at h2
  have h3 : bvs k.1 = bvs k'.1 := by
    have h4 : (Rdr.cells (rVec 32) k) = Rdr.cells (rVec 32) k' := by
      have := congrArg Array.toList h2
      simpa using this
    exact h4
  exact (Subtype.ext (Abu h3)).symm
def under (t : Tr) (N : List TN) (a b : Vec 32) : Bool := has t N a && (has t N b && (decide (b = t.root) || decide (b ∈ wayUp t N (hgt t N a) a)))
theorem Ni (t : Tr) (N : List TN) (n : Nat) : wayUp t N n t.root = [] := by
  cases n <;> simp [wayUp]
theorem JV {k : Vec 32} (hw : TrW t N) (h : has t N k = true) (hk : k ≠ t.root) : wayUp t N (hgt t N k) k = k :: wayUp t N (hgt t N (upOf k N)) (upOf k N) := by
  obtain ⟨h1, h2⟩ := Fo hw h hk
  rw [h2, wayUp, if_neg hk]
theorem LS (hr : TrR w.heap g gm ov t N c) (hw : TrW t N) (a b : Vec 32) : cal P DE [.pointer (some ⟨g, 0, none⟩), kv a, kv b] w fun r w' => r = .bool (under t N a b) ∧ Fr [] w w' := by
  refine Pm fun R hR => ?_
  unfold IZ
  refine bxQ (Sep.start w) fun g3 w1 hs1 => ?_
  refine bxQ hs1 fun g4 w2 hs2 => ?_
  simp only [Ah (Sep.p1 hs2).blk]
  refine cal_i (Gi (hs2.tr hr) a) ?_
  rintro _ w3 ⟨rfl, hf3⟩
  have hs3 := hs2.old hf3
  by_cases ha : has t N a = true
  case neg =>
    have ha : has t N a = false := by simpa using ha
    simp only [ha, fx, Nat.reduceAdd, forall_const, Bool.not_false]
    exact hR _ _ ⟨by unfold under; rw [ha]; rfl, hs3.fr0⟩
  simp only [ha, fx, Nat.reduceAdd, forall_const, Bool.not_true, Ah hs3.blk]
  refine Bi ?_
  refine cal_i (Gi (hs3.tr hr) b) ?_
  rintro _ w4 ⟨rfl, hf4⟩
  have hs4 := hs3.old hf4
  by_cases hb : has t N b = true
  case neg =>
    have hb : has t N b = false := by simpa using hb
    simp only [hb, fx, Nat.reduceAdd, forall_const, Bool.not_false]
    exact hR _ _ ⟨by unfold under; rw [hb, Bool.false_and, Bool.and_false], hs4.fr0⟩
  simp only [hb, fx, Nat.reduceAdd, forall_const, Bool.not_true]
  refine ⟨fun z => ∃ k, has t N k = true ∧ under t N a b = under t N k b ∧ Sep w z [blk g4 (Rdr.cells (rVec 32) b).toArray Aa, blk g3 (Rdr.cells (rVec 32) k).toArray Aa], fun z => hgt t N (keyAt g3 z), ⟨a, ha, rfl, hs4⟩, ?_⟩
  rintro w5 ⟨k, hk, hu, hs5⟩ -
  refine drw_s hs5 fun w6 hs6 hw6 => ?_
  obtain ⟨T, fr, hc⟩ := (hs6.tr hr).cell
  simp only [Ah hs6.blk, Ah (Sep.p1 hs6).blk, CB, C7 hc, BZ hc, BJ hc, Bx hc, BQ hc, A0 hc, BC hc, fx, Nat.reduceAdd, forall_const]
  have fin : (k = b ∨ k = t.root) → R (.bool (decide (k = b))) w6 := fun he => by
    refine hR _ _ ⟨?_, hs6.fr0⟩
    rw [hu]
    congr 1
    unfold under
    rw [hk, hb, Bool.true_and, Bool.true_and]
    by_cases hkb : k = b
    · subst hkb
      rw [decide_eq_true rfl]
      by_cases hkr : k = t.root
      · rw [decide_eq_true hkr]; rfl
      · rw [JV hw hk hkr]; simp
    · have hkr : k = t.root := he.resolve_left hkb
      rw [decide_eq_false hkb, hkr, Ni]
      have : ¬ b = t.root := fun hbr => hkb (by rw [hkr, hbr])
      simp [this]
  rw [Ai]
  refine ⟨fun h => ?_, fun h => ?_⟩
  · have h1 : ¬ k = b ∧ ¬ k = t.root := by simpa using h
    obtain ⟨h2, h3⟩ := Fo hw hk h1.2
    refine drH_S hs6 fun w7 hs7 hw7 => ?_
    refine AG (v := .map (some gm)) (fun u hu K hk => by
      obtain ⟨T, fr, hc⟩ := (hu.tr hr).cell
      exact (A0 hc K).mpr hk) ?_
    refine ⟨kv k, fun u hu => (Ah (Sep.p1 hu).blk _).mpr rfl, ?_⟩
    refine ⟨(getE k (N.map TN.ent)).getD (bq Blk.none (.slice none 0 0)), fun u hu => ((hu.tr hr).look1 k _).mpr rfl, ?_⟩
    rw [Mp]
    have e : ∀ K, fldv 0 32 true (bq (nb k N).1 (nb k N).2) K = K (kv (upOf k N)) := fun K => by
      have hl : (bvs (nb k N).1.p.1).length = 32 := by rw [JW]; exact (nb k N).1.p.2
      have ex : (Rdr.cells Au ((nb k N).1.p, (nb k N).1.h, (nb k N).2)).toArray.extract 0 (0 + 32) = (bvs (nb k N).1.p.1).toArray := by
        apply Array.ext'
        show ((bvs (nb k N).1.p.1 ++ ([Value.int .i64 (nb k N).1.h] ++ [(nb k N).2])).toArray.extract 0 (0 + 32)).toList = _
        simp only [List.extract_toArray, List.drop_zero]
        simp [List.extract, hl]
      refine propext ⟨?_, fun hk => ⟨_, rfl, ?_, ?_⟩⟩
      · rintro ⟨cs, hcs, h⟩
        cases hcs
        have h2 := h.2
        rw [ex] at h2
        exact h2
      · show 0 + 32 ≤ (bvs (nb k N).1.p.1 ++ ([Value.int .i64 (nb k N).1.h] ++ [(nb k N).2])).toArray.size
        simp [hl]
      · rw [ex]
        exact hk
    change fldv _ _ _ _ _
    rw [e]
    refine A3 (AB hs7.p1 fun w8 hs8 => ?_)
    refine ⟨⟨upOf k N, h2, ?_, hs8.p1⟩, ?_⟩
    · rw [hu]
      unfold under
      rw [hk, h2, JV hw hk h1.2]
      have : ¬ b = k := fun hbk => h1.1 hbk.symm
      simp [this]
    · rw [Gf hs8.blk, Gf (Sep.p1 hs5).blk]
      omega
  · have h1 : k = b ∨ k = t.root := by
      rcases Decidable.em (k = b) with hh | hh
      · exact .inl hh
      · refine .inr (Decidable.byContradiction fun hr' => ?_)
        simp [hh, hr'] at h
    simp only [BP, Ah hs6.blk, Ah (Sep.p1 hs6).blk]
    exact fin h1
end
end Go.Fx
set_option linter.unusedVariables false
set_option linter.unusedSimpArgs false
namespace Go.Fx
theorem Aaz {β : Type} {D vs pre qa post : List β} {k n : Nat} (hp : pre.length = k) (hv : vs.length = qa.length) (h : D.take n = pre ++ qa ++ post) (hn : n = k + qa.length + post.length) : (D.take k ++ vs ++ D.drop (k + vs.length)).take n = pre ++ vs ++ post := by
  obtain ⟨R, hR⟩ : ∃ R, D = pre ++ (qa ++ (post ++ R)) := ⟨D.drop n, by conv => lhs; rw [← List.take_append_drop n D, h]; simp⟩
  have h1 : D.take k = pre := by rw [hR]; exact List.take_left' hp
  have h2 : D.drop (k + vs.length) = post ++ R := by rw [hR, ← List.drop_drop, List.drop_left' hp, hv]; exact List.drop_left' rfl
  rw [h1, h2, ← List.append_assoc]
  exact List.take_left' (by simp; omega)
section
variable {w0 w w' : World} {As : List Asn} {α : Type} {q : Rdr α}
theorem Yl {g o c j : Nat} {l : List α} {a b : α} {K : World → Prop} (hs : Sep w0 w (Go.Fx.rows q (.slice (some ⟨g, o, none⟩) l.length c) l :: As)) (hj : l[j]? = some a)
    (h1 : ∀ u ∈ q.cells b, u.oneCell' = true) (h : ∀ w', Sep w0 w' (Go.Fx.rows q (.slice (some ⟨g, o, none⟩) l.length c) (l.set j b) :: As) → K w') : stN q.size (.pointer (some ⟨g, o + j * q.size, none⟩)) (.agg (q.cells b).toArray) w K := by
  obtain ⟨F, ho, hu⟩ := hs.upd
  have hlt := (List.getElem?_eq_some_iff.1 hj).1
  obtain ⟨pre', post', d1, d2, d3⟩ := Ma (q := q) (b := b) hj
  have hb : j * q.size + q.size ≤ l.length * q.size := by rw [← Nat.succ_mul]; exact Nat.mul_le_mul_right _ hlt
  obtain ⟨hl, ⟨hv, _⟩ | ⟨g', o', cap, cur, E, hv, hn, hg, hfit, hcs, rfl⟩⟩ := ho
  · cases hv
  · cases hv
    have hcap : l.length * q.size ≤ c * q.size := Nat.mul_le_mul_right _ hn
    have hqa := q.len a
    have hqb := q.len b
    refine stN_i hg (by simp [hqb]) (by omega) (by simpa using h1) fun w' hg' hf => h w' ?_
    have hll : (l.set j b).length = l.length := by simp
    refine hu w' [g] _ ?_ hf (Grew.refl _ _)
    show Own w'.heap _ q.size (l.set j b).length _ [g]
    rw [hll]
    have hsz : (splice cur (o + j * q.size) (q.cells b)).size = cur.size := by
      simp only [splice, List.size_toArray, List.length_append, List.length_take, List.length_drop, Array.length_toList, hqb]
      omega
    refine ⟨by rw [DF q.len, hll], .inr ⟨g, o, c, _, E, rfl, hn, hg', by rw [hsz]; exact hfit, ?_, rfl⟩⟩
    rw [d2]
    rw [d1] at hcs
    have hlen : l.length * q.size = j * q.size + q.size + post'.length := by
      have h2 := congrArg List.length d1
      rw [DF q.len, List.length_append, List.length_append, hqa, d3] at h2
      exact h2
    have e : (splice cur (o + j * q.size) (q.cells b)).toList.drop o = (cur.toList.drop o).take (j * q.size) ++ q.cells b ++ (cur.toList.drop o).drop (j * q.size + (q.cells b).length) := by
      have e1 : List.drop o (cur.toList.take (o + j * q.size)) = (cur.toList.drop o).take (j * q.size) := by rw [List.drop_take]; congr 1; omega
      have e2 : (cur.toList.drop o).drop (j * q.size + (q.cells b).length) = cur.toList.drop (o + j * q.size + (q.cells b).length) := by rw [List.drop_drop]; congr 1; omega
      rw [e2]
      simp only [splice]
      rw [List.append_assoc, List.drop_append_of_le_length (by simp only [List.length_take, Array.length_toList]; omega), e1, List.append_assoc]
    rw [e]
    exact Aaz d3 (by rw [hqa, hqb]) hcs (by rw [hqa]; exact hlen)
theorem KS {S : World → Prop} {v : Value} {l : List α} {j : Nat} {a : α} {K : Value → Prop} (hp : 0 < q.size)
    (hw : S w) (hS : ∀ u, S u → Rows' q u.heap v l) (hj : l[j]? = some a) (k : IntKind) (h : K (.agg (q.cells a).toArray)) : ixs q.size v (.int k (j : Int)) fun t => rdS S (fun w => ldN q.size t w.heap) K := by
  obtain ⟨g, o, c, rfl⟩ := (hS w hw).form hp hj
  have hlt := (List.getElem?_eq_some_iff.1 hj).1
  rw [Dh _ _ _ _ _ _ _ _ (by omega) (by omega), Int.toNat_natCast]
  refine ⟨.agg (q.cells a).toArray, fun z hz => ?_, h⟩
  have hat := At.of hp (hS z hz) hj
  exact (At.ldN hat (q.len a) _).mpr rfl
theorem Yq {v : Value} {l : List (Vec 32)} (hs : Sep w0 w (rows (rVec 32) v l :: As)) (hl : l.length ≤ 1000000) : cal P Da [v] w fun r w' => r = .tuple #[] ∧ Sep w0 w' (rows (rVec 32) v l.reverse :: As) := by
  refine HM fun R hR => ?_
  unfold Et
  simp only [(Sep.rows hs).len, fx, Nat.reduceAdd, forall_const]
  rw [wi64 (by omega) (by omega)]
  refine ⟨fun x y z => ∃ (i : Nat) (m : List (Vec 32)), x = .int .i64 i ∧ y = .int .i64 ((l.length : Int) - 1 - i) ∧ 2 * i ≤ l.length + 1 ∧ m.length = l.length ∧ (∀ p, p < l.length → m[p]? = if p < i ∨ l.length ≤ p + i then l[l.length - 1 - p]? else l[p]?) ∧ Sep w0 z (rows (rVec 32) v m :: As),
    fun x _ _ => (l.length - RowKit.intOf x).toNat, ⟨0, l, rfl, by simp, by omega, rfl, fun p hp => by rw [if_neg (by omega)], hs⟩, ?_⟩
  rintro _ _ w1 ⟨i, m, rfl, rfl, hi, hml, hm, hs1⟩ -
  simp only [fx, Nat.reduceAdd, forall_const]
  rw [Ai]
  refine ⟨fun h => ?_, fun h => ?_⟩
  · have hij : i + 1 + i < l.length := by simp at h; omega
    obtain ⟨j, hj⟩ : ∃ j : Nat, (l.length : Int) - 1 - i = (j : Int) := ⟨l.length - 1 - i, by omega⟩
    have hjl : j = l.length - 1 - i := by omega
    rw [hj]
    obtain ⟨a, c, rfl, hac⟩ := Sep.formR hs1
    have hmi := List.getElem?_eq_getElem (l := m) (i := i) (by omega)
    have hmj := List.getElem?_eq_getElem (l := m) (i := j) (by omega)
    generalize m[i] = x at hmi
    generalize m[j] = y at hmj
    refine drH_S hs1 fun w2 hs2 _ => ?_
    refine KS (q := rVec 32) (by decide) hs2 (fun u hu => Sep.rows hu) hmj .i64 ?_
    refine KS (q := rVec 32) (by decide) hs2 (fun u hu => Sep.rows hu) hmi .i64 ?_
    obtain ⟨g, o, c', hv⟩ := (Sep.rows hs2).form (by decide) hmi
    simp only [Value.slice.injEq] at hv
    obtain ⟨rfl, _, rfl⟩ := hv
    rw [Dh _ _ _ _ _ _ _ _ (by omega) (by omega), Int.toNat_natCast]
    refine A3 (Yl hs2 hmi BW fun w3 hs3 => ?_)
    rw [Dh _ _ _ _ _ _ _ _ (by omega) (by omega), Int.toNat_natCast]
    have hmj' : (m.set i y)[j]? = some y := by rw [List.getElem?_set_ne (by omega)]; exact hmj
    have e3 : m.length = (m.set i y).length := by simp
    rw [e3] at hs3
    refine A3 (Yl hs3 hmj' BW fun w4 hs4 => ?_)
    rw [← e3] at hs4
    rw [wi64 (by omega) (by omega), wi64 (by omega) (by omega)]
    refine ⟨⟨i + 1, (m.set i y).set j x, by simp, by congr 1; omega, by omega, by simp [hml], fun p hp => ?_, hs4⟩, by simp [RowKit.intOf]; omega⟩
    have hmp := hm p hp
    have hix := hm i (by omega)
    have hjy := hm j (by omega)
    rw [if_neg (by omega)] at hix hjy
    by_cases hpj : p = j
    · subst hpj
      rw [List.getElem?_set_self (by simp; omega), if_pos (by omega), show l.length - 1 - p = i by omega, ← hix, hmi]
    · rw [List.getElem?_set_ne (by omega)]
      by_cases hpi : p = i
      · subst hpi
        rw [List.getElem?_set_self (by omega), if_pos (by omega), show l.length - 1 - p = j by omega, ← hjy, hmj]
      · rw [List.getElem?_set_ne (by omega), hmp]
        by_cases hc : p < i ∨ l.length ≤ p + i
        · rw [if_pos hc, if_pos (by omega)]
        · rw [if_neg hc, if_neg (by omega)]
  · have hge : l.length ≤ i + 1 + i := by simp at h; omega
    have e : m = l.reverse := by
      apply List.ext_getElem?
      intro p
      by_cases hp : p < l.length
      · rw [hm p hp, List.getElem?_reverse hp]
        by_cases hc : p < i ∨ l.length ≤ p + i
        · rw [if_pos hc]
        · rw [if_neg hc, show l.length - 1 - p = p by omega]
      · rw [List.getElem?_eq_none (by omega), List.getElem?_eq_none (by simp; omega)]
    rw [e] at hs1
    exact hR _ _ ⟨rfl, hs1⟩
end
end Go.Fx
