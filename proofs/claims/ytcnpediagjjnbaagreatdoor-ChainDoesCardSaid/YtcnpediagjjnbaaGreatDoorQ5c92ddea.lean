/-
  Records one behind the other: what a scan tells, as a relation; cut off anywhere.
-/
import Derived.Lib.SlBytesConst
import Derived.Test.YtcnpediagjjnbaaGreatDoorQ301ba823
import Derived.Test.YtcnpediagjjnbaaGreatDoorQ6269320c
import Derived.Test.YtcnpediagjjnbaaGreatDoorQ3cb80874
import Derived.Test.YtcnpediagjjnbaaGreatDoorQ3611c588
import Derived.Test.YtcnpediagjjnbaaGreatDoorQ469e9b02
set_option linter.unusedVariables false
set_option maxRecDepth 100000
namespace Go.Fx
theorem someNe {α : Type} {o : Option α} (h : o.isSome = true) : o ≠ none := by intro h2; rw [h2] at h; cases h
theorem U_int64 : P.underlying T_int64 = some (.int .i64) := by kernel_rfl
theorem U_int : P.underlying T_int = some (.int .i64) := by kernel_rfl
theorem U_uint8 : P.underlying T_uint8 = some (.int .u8) := by kernel_rfl
theorem U_sl_uint8 : P.underlying T_sl_uint8 = some (.slice T_uint8) := by kernel_rfl
theorem S_sl_uint8 : SlT P T_sl_uint8 T_uint8 1 1 := ⟨by kernel_rfl, by kernel_rfl, by kernel_rfl, someNe (by kernel_rfl), by kernel_rfl, by decide⟩
theorem U_api_ID : P.underlying T_api_ID = some (.array 32 T_uint8) := by kernel_rfl
theorem U_api_Block : P.underlying T_api_Block = some (.struct (fsOf P T_api_Block)) := by kernel_rfl
theorem U_sl_flurrylaw10_named : P.underlying T_sl_flurrylaw10_named = some (.slice T_flurrylaw10_named) := by kernel_rfl
theorem S_sl_flurrylaw10_named : SlT P T_sl_flurrylaw10_named T_flurrylaw10_named 66 96 := ⟨by kernel_rfl, by kernel_rfl, by kernel_rfl, someNe (by kernel_rfl), by kernel_rfl, by decide⟩
theorem U_flurrylaw10_named : P.underlying T_flurrylaw10_named = some (.struct (fsOf P T_flurrylaw10_named)) := by kernel_rfl
theorem U_flurrylaw10_world : P.underlying T_flurrylaw10_world = some (.struct (fsOf P T_flurrylaw10_world)) := by kernel_rfl
theorem U_sl_api_Block : P.underlying T_sl_api_Block = some (.slice T_api_Block) := by kernel_rfl
theorem S_sl_api_Block : SlT P T_sl_api_Block T_api_Block 34 64 := ⟨by kernel_rfl, by kernel_rfl, by kernel_rfl, someNe (by kernel_rfl), by kernel_rfl, by decide⟩
theorem U_sl_api_ID : P.underlying T_sl_api_ID = some (.slice T_api_ID) := by kernel_rfl
theorem S_sl_api_ID : SlT P T_sl_api_ID T_api_ID 32 32 := ⟨by kernel_rfl, by kernel_rfl, by kernel_rfl, someNe (by kernel_rfl), by kernel_rfl, by decide⟩
theorem U_map_api_ID_int : P.underlying T_map_api_ID_int = some (.map T_api_ID T_int) := by kernel_rfl
theorem U_chain_Chain : P.underlying T_chain_Chain = some (.struct (fsOf P T_chain_Chain)) := by kernel_rfl
theorem U_sl_flurrylaw10_Op : P.underlying T_sl_flurrylaw10_Op = some (.slice T_flurrylaw10_Op) := by kernel_rfl
theorem U_flurrylaw10_Op : P.underlying T_flurrylaw10_Op = some (.struct (fsOf P T_flurrylaw10_Op)) := by kernel_rfl
theorem al_tape_Tape (w : World) : (Instr.alloc T_tape_Tape true (.tuple #[])).run P w = .ok (.pointer (some ⟨w.heap.size, 0, none⟩)) (w.alloc (.cells #[(Value.slice none 0 0), (Value.int IntKind.i64 0), (Value.bool false), (Value.bool false)] T_tape_Tape)) := by kernel_rfl
theorem U_chain_held : P.underlying T_chain_held = some (.struct (fsOf P T_chain_held)) := by kernel_rfl
theorem U_flurryref10_Chain : P.underlying T_flurryref10_Chain = some (.struct (fsOf P T_flurryref10_Chain)) := by kernel_rfl
theorem U_sl_int : P.underlying T_sl_int = some (.slice T_int) := by kernel_rfl
theorem S_sl_int : SlT P T_sl_int T_int 1 8 := ⟨by kernel_rfl, by kernel_rfl, by kernel_rfl, someNe (by kernel_rfl), by kernel_rfl, by decide⟩
theorem U_uint32 : P.underlying T_uint32 = some (.int .u32) := by kernel_rfl
theorem U_pack_Packer : P.underlying T_pack_Packer = some (.struct (fsOf P T_pack_Packer)) := by kernel_rfl
theorem U_a64_uint32 : P.underlying T_a64_uint32 = some (.array 64 T_uint32) := by kernel_rfl
abbrev Q_api_Block := (Rdr.pair (rVec 32) (Rdr.pair (rInt .i64) qv))
theorem L_api_Block {h : Heap} {g : Nat} {t : TypeId} {fr : Nat × Nat} {a} (hg : h[g]? = some (.cells (Rdr.cells Q_api_Block a).toArray t fr)) (K : Value → Prop) : ldN 34 (.pointer (some ⟨g, 0, none⟩)) h K = K (.agg (Rdr.cells Q_api_Block a).toArray) := Fld.ldN (r := Q_api_Block) (s := Q_api_Block) Fld.self hg K
theorem St_api_Block {w0 w : World} {As : List Asn} {g : Nat} {t : TypeId} {a} {b} {K : World → Prop} (hs : Sep w0 w (blk g (Rdr.cells Q_api_Block a).toArray t :: As)) (h1 : ∀ u ∈ Rdr.cells Q_api_Block b, u.oneCell' = true) (h : ∀ w', Sep w0 w' (blk g (Rdr.cells Q_api_Block b).toArray t :: As) → K w') : stN 34 (.pointer (some ⟨g, 0, none⟩)) (.agg (Rdr.cells Q_api_Block b).toArray) w K := Fld.stN (r := Q_api_Block) (s := Q_api_Block) Fld.self hs h1 h
theorem L_api_Block__Parent {h : Heap} {g : Nat} {t : TypeId} {fr : Nat × Nat} {a} (hg : h[g]? = some (.cells (Rdr.cells Q_api_Block a).toArray t fr)) (K : Value → Prop) : ldN 32 (.pointer (some ⟨g, 0, none⟩)) h K = K (.agg (Rdr.cells (rVec 32) a.1).toArray) := Fld.ldN (r := Q_api_Block) (s := (rVec 32)) (Fld.fst Fld.self) hg K
theorem L_api_Block__Height {h : Heap} {g : Nat} {t : TypeId} {fr : Nat × Nat} {a} (hg : h[g]? = some (.cells (Rdr.cells Q_api_Block a).toArray t fr)) (K : Value → Prop) : ld1 (.pointer (some ⟨g, 32, none⟩)) h K = K (.int .i64 a.2.1) := Fld.ldI (r := Q_api_Block) (Fld.snd (Fld.fst Fld.self)) hg K
theorem L_api_Block__Data {h : Heap} {g : Nat} {t : TypeId} {fr : Nat × Nat} {a} (hg : h[g]? = some (.cells (Rdr.cells Q_api_Block a).toArray t fr)) (K : Value → Prop) : ld1 (.pointer (some ⟨g, 33, none⟩)) h K = K (a.2.2) := Fld.ld1 (r := Q_api_Block) (Fld.snd (Fld.snd Fld.self)) hg K
theorem St_api_Block__Data {w0 w : World} {As : List Asn} {g : Nat} {t : TypeId} {a} {b} {K : World → Prop} (hs : Sep w0 w (blk g (Rdr.cells Q_api_Block a).toArray t :: As)) (h1 : b.oneCell' = true) (h : ∀ w', Sep w0 w' (blk g (Rdr.cells Q_api_Block (a.1, a.2.1, b)).toArray t :: As) → K w') : st1 (.pointer (some ⟨g, 33, none⟩)) (b) w K := Fld.stV (r := Q_api_Block) (s := qv) (Fld.snd (Fld.snd Fld.self)) rfl hs h1 h
theorem one_api_Block {a} (h0 : (a.2.2).oneCell' = true) : ∀ u ∈ Rdr.cells Q_api_Block a, u.oneCell' = true := (onePair oneVec (onePair oneI (oneV h0)))
theorem A_api_Block (w : World) : (Instr.alloc T_api_Block true (.tuple #[])).run P w = .ok (.pointer (some ⟨w.heap.size, 0, none⟩)) (w.alloc (.cells (Rdr.cells Q_api_Block ((vz 32), (0 : Int), ((Value.slice none 0 0)))).toArray T_api_Block)) := by kernel_rfl
theorem pl_api_Block : ((fsOf P T_api_Block).toList.mapM fun f : Field => (P.info? f.type).map fun i => (f.offset, i.size)) = some (#[(0, 32), (32, 1), (33, 1)] : Array (Nat × Nat)).toList := by kernel_rfl
theorem z_api_Block : ((P.info? T_api_Block).bind fun it => it.zero.map fun z => z.cells) = some (Rdr.cells Q_api_Block ((vz 32), (0 : Int), ((Value.slice none 0 0)))).toArray := by kernel_rfl
abbrev Q_flurrylaw10_named := (Rdr.pair (rVec 32) Q_api_Block)
theorem LA_flurrylaw10_named__id {h : Heap} {g o : Nat} {a} (hg : At h g o (Rdr.cells Q_flurrylaw10_named a)) (K : Value → Prop) : ldN 32 (.pointer (some ⟨g, o, none⟩)) h K = K (.agg (Rdr.cells (rVec 32) a.1).toArray) := Fld.ldNA (r := Q_flurrylaw10_named) (s := (rVec 32)) (Fld.fst Fld.self) hg K
theorem LA_flurrylaw10_named__b {h : Heap} {g o : Nat} {a} (hg : At h g o (Rdr.cells Q_flurrylaw10_named a)) (K : Value → Prop) : ldN 34 (.pointer (some ⟨g, o + 32, none⟩)) h K = K (.agg (Rdr.cells Q_api_Block a.2).toArray) := Fld.ldNA (r := Q_flurrylaw10_named) (s := Q_api_Block) (Fld.snd Fld.self) hg K
theorem one_flurrylaw10_named {a} (h0 : (a.2.2.2).oneCell' = true) : ∀ u ∈ Rdr.cells Q_flurrylaw10_named a, u.oneCell' = true := (onePair oneVec (onePair oneVec (onePair oneI (oneV h0))))
theorem pl_flurrylaw10_named : ((fsOf P T_flurrylaw10_named).toList.mapM fun f : Field => (P.info? f.type).map fun i => (f.offset, i.size)) = some (#[(0, 32), (32, 34)] : Array (Nat × Nat)).toList := by kernel_rfl
theorem z_flurrylaw10_named : ((P.info? T_flurrylaw10_named).bind fun it => it.zero.map fun z => z.cells) = some (Rdr.cells Q_flurrylaw10_named ((vz 32), ((vz 32), (0 : Int), ((Value.slice none 0 0))))).toArray := by kernel_rfl
abbrev Q_flurrylaw10_world := (Rdr.pair qv (Rdr.pair qv (Rdr.pair qv qv)))
theorem L_flurrylaw10_world {h : Heap} {g : Nat} {t : TypeId} {fr : Nat × Nat} {a} (hg : h[g]? = some (.cells (Rdr.cells Q_flurrylaw10_world a).toArray t fr)) (K : Value → Prop) : ldN 4 (.pointer (some ⟨g, 0, none⟩)) h K = K (.agg (Rdr.cells Q_flurrylaw10_world a).toArray) := Fld.ldN (r := Q_flurrylaw10_world) (s := Q_flurrylaw10_world) Fld.self hg K
theorem L_flurrylaw10_world__t {h : Heap} {g : Nat} {t : TypeId} {fr : Nat × Nat} {a} (hg : h[g]? = some (.cells (Rdr.cells Q_flurrylaw10_world a).toArray t fr)) (K : Value → Prop) : ld1 (.pointer (some ⟨g, 0, none⟩)) h K = K (a.1) := Fld.ld1 (r := Q_flurrylaw10_world) (Fld.fst Fld.self) hg K
theorem L_flurrylaw10_world__c {h : Heap} {g : Nat} {t : TypeId} {fr : Nat × Nat} {a} (hg : h[g]? = some (.cells (Rdr.cells Q_flurrylaw10_world a).toArray t fr)) (K : Value → Prop) : ld1 (.pointer (some ⟨g, 1, none⟩)) h K = K (a.2.1) := Fld.ld1 (r := Q_flurrylaw10_world) (Fld.snd (Fld.fst Fld.self)) hg K
theorem St_flurrylaw10_world__c {w0 w : World} {As : List Asn} {g : Nat} {t : TypeId} {a} {b} {K : World → Prop} (hs : Sep w0 w (blk g (Rdr.cells Q_flurrylaw10_world a).toArray t :: As)) (h1 : b.oneCell' = true) (h : ∀ w', Sep w0 w' (blk g (Rdr.cells Q_flurrylaw10_world (a.1, b, a.2.2.1, a.2.2.2)).toArray t :: As) → K w') : st1 (.pointer (some ⟨g, 1, none⟩)) (b) w K := Fld.stV (r := Q_flurrylaw10_world) (s := qv) (Fld.snd (Fld.fst Fld.self)) rfl hs h1 h
theorem L_flurrylaw10_world__u {h : Heap} {g : Nat} {t : TypeId} {fr : Nat × Nat} {a} (hg : h[g]? = some (.cells (Rdr.cells Q_flurrylaw10_world a).toArray t fr)) (K : Value → Prop) : ld1 (.pointer (some ⟨g, 2, none⟩)) h K = K (a.2.2.1) := Fld.ld1 (r := Q_flurrylaw10_world) (Fld.snd (Fld.snd (Fld.fst Fld.self))) hg K
theorem L_flurrylaw10_world__w {h : Heap} {g : Nat} {t : TypeId} {fr : Nat × Nat} {a} (hg : h[g]? = some (.cells (Rdr.cells Q_flurrylaw10_world a).toArray t fr)) (K : Value → Prop) : ld1 (.pointer (some ⟨g, 3, none⟩)) h K = K (a.2.2.2) := Fld.ld1 (r := Q_flurrylaw10_world) (Fld.snd (Fld.snd (Fld.snd Fld.self))) hg K
theorem St_flurrylaw10_world__w {w0 w : World} {As : List Asn} {g : Nat} {t : TypeId} {a} {b} {K : World → Prop} (hs : Sep w0 w (blk g (Rdr.cells Q_flurrylaw10_world a).toArray t :: As)) (h1 : b.oneCell' = true) (h : ∀ w', Sep w0 w' (blk g (Rdr.cells Q_flurrylaw10_world (a.1, a.2.1, a.2.2.1, b)).toArray t :: As) → K w') : st1 (.pointer (some ⟨g, 3, none⟩)) (b) w K := Fld.stV (r := Q_flurrylaw10_world) (s := qv) (Fld.snd (Fld.snd (Fld.snd Fld.self))) rfl hs h1 h
theorem pl_flurrylaw10_world : ((fsOf P T_flurrylaw10_world).toList.mapM fun f : Field => (P.info? f.type).map fun i => (f.offset, i.size)) = some (#[(0, 1), (1, 1), (2, 1), (3, 1)] : Array (Nat × Nat)).toList := by kernel_rfl
theorem z_flurrylaw10_world : ((P.info? T_flurrylaw10_world).bind fun it => it.zero.map fun z => z.cells) = some (Rdr.cells Q_flurrylaw10_world (((Value.pointer none)), ((Value.pointer none)), ((Value.pointer none)), ((Value.pointer none)))).toArray := by kernel_rfl
abbrev Q_chain_Chain := (Rdr.pair qv (Rdr.pair qv (Rdr.pair qv (Rdr.pair qv rBool))))
theorem L_chain_Chain {h : Heap} {g : Nat} {t : TypeId} {fr : Nat × Nat} {a} (hg : h[g]? = some (.cells (Rdr.cells Q_chain_Chain a).toArray t fr)) (K : Value → Prop) : ldN 5 (.pointer (some ⟨g, 0, none⟩)) h K = K (.agg (Rdr.cells Q_chain_Chain a).toArray) := Fld.ldN (r := Q_chain_Chain) (s := Q_chain_Chain) Fld.self hg K
theorem L_chain_Chain__in {h : Heap} {g : Nat} {t : TypeId} {fr : Nat × Nat} {a} (hg : h[g]? = some (.cells (Rdr.cells Q_chain_Chain a).toArray t fr)) (K : Value → Prop) : ld1 (.pointer (some ⟨g, 0, none⟩)) h K = K (a.1) := Fld.ld1 (r := Q_chain_Chain) (Fld.fst Fld.self) hg K
theorem L_chain_Chain__l {h : Heap} {g : Nat} {t : TypeId} {fr : Nat × Nat} {a} (hg : h[g]? = some (.cells (Rdr.cells Q_chain_Chain a).toArray t fr)) (K : Value → Prop) : ld1 (.pointer (some ⟨g, 1, none⟩)) h K = K (a.2.1) := Fld.ld1 (r := Q_chain_Chain) (Fld.snd (Fld.fst Fld.self)) hg K
theorem St_chain_Chain__l {w0 w : World} {As : List Asn} {g : Nat} {t : TypeId} {a} {b} {K : World → Prop} (hs : Sep w0 w (blk g (Rdr.cells Q_chain_Chain a).toArray t :: As)) (h1 : b.oneCell' = true) (h : ∀ w', Sep w0 w' (blk g (Rdr.cells Q_chain_Chain (a.1, b, a.2.2.1, a.2.2.2.1, a.2.2.2.2)).toArray t :: As) → K w') : st1 (.pointer (some ⟨g, 1, none⟩)) (b) w K := Fld.stV (r := Q_chain_Chain) (s := qv) (Fld.snd (Fld.fst Fld.self)) rfl hs h1 h
theorem L_chain_Chain__ids {h : Heap} {g : Nat} {t : TypeId} {fr : Nat × Nat} {a} (hg : h[g]? = some (.cells (Rdr.cells Q_chain_Chain a).toArray t fr)) (K : Value → Prop) : ld1 (.pointer (some ⟨g, 2, none⟩)) h K = K (a.2.2.1) := Fld.ld1 (r := Q_chain_Chain) (Fld.snd (Fld.snd (Fld.fst Fld.self))) hg K
theorem St_chain_Chain__ids {w0 w : World} {As : List Asn} {g : Nat} {t : TypeId} {a} {b} {K : World → Prop} (hs : Sep w0 w (blk g (Rdr.cells Q_chain_Chain a).toArray t :: As)) (h1 : b.oneCell' = true) (h : ∀ w', Sep w0 w' (blk g (Rdr.cells Q_chain_Chain (a.1, a.2.1, b, a.2.2.2.1, a.2.2.2.2)).toArray t :: As) → K w') : st1 (.pointer (some ⟨g, 2, none⟩)) (b) w K := Fld.stV (r := Q_chain_Chain) (s := qv) (Fld.snd (Fld.snd (Fld.fst Fld.self))) rfl hs h1 h
theorem L_chain_Chain__at {h : Heap} {g : Nat} {t : TypeId} {fr : Nat × Nat} {a} (hg : h[g]? = some (.cells (Rdr.cells Q_chain_Chain a).toArray t fr)) (K : Value → Prop) : ld1 (.pointer (some ⟨g, 3, none⟩)) h K = K (a.2.2.2.1) := Fld.ld1 (r := Q_chain_Chain) (Fld.snd (Fld.snd (Fld.snd (Fld.fst Fld.self)))) hg K
theorem L_chain_Chain__over {h : Heap} {g : Nat} {t : TypeId} {fr : Nat × Nat} {a} (hg : h[g]? = some (.cells (Rdr.cells Q_chain_Chain a).toArray t fr)) (K : Value → Prop) : ld1 (.pointer (some ⟨g, 4, none⟩)) h K = K (.bool a.2.2.2.2) := Fld.ldB (r := Q_chain_Chain) (Fld.snd (Fld.snd (Fld.snd (Fld.snd Fld.self)))) hg K
theorem St_chain_Chain__over {w0 w : World} {As : List Asn} {g : Nat} {t : TypeId} {a} {b} {K : World → Prop} (hs : Sep w0 w (blk g (Rdr.cells Q_chain_Chain a).toArray t :: As)) (h : ∀ w', Sep w0 w' (blk g (Rdr.cells Q_chain_Chain (a.1, a.2.1, a.2.2.1, a.2.2.2.1, b)).toArray t :: As) → K w') : st1 (.pointer (some ⟨g, 4, none⟩)) (.bool b) w K := Fld.stV (r := Q_chain_Chain) (s := rBool) (Fld.snd (Fld.snd (Fld.snd (Fld.snd Fld.self)))) rfl hs rfl h
theorem pl_chain_Chain : ((fsOf P T_chain_Chain).toList.mapM fun f : Field => (P.info? f.type).map fun i => (f.offset, i.size)) = some (#[(0, 1), (1, 1), (2, 1), (3, 1), (4, 1)] : Array (Nat × Nat)).toList := by kernel_rfl
theorem z_chain_Chain : ((P.info? T_chain_Chain).bind fun it => it.zero.map fun z => z.cells) = some (Rdr.cells Q_chain_Chain (((Value.pointer none)), ((Value.slice none 0 0)), ((Value.slice none 0 0)), ((Value.map none)), false)).toArray := by kernel_rfl
abbrev Q_flurrylaw10_Op := (Rdr.pair (rInt .i64) (Rdr.pair (rInt .i64) (Rdr.pair qv Q_api_Block)))
theorem L_flurrylaw10_Op {h : Heap} {g : Nat} {t : TypeId} {fr : Nat × Nat} {a} (hg : h[g]? = some (.cells (Rdr.cells Q_flurrylaw10_Op a).toArray t fr)) (K : Value → Prop) : ldN 37 (.pointer (some ⟨g, 0, none⟩)) h K = K (.agg (Rdr.cells Q_flurrylaw10_Op a).toArray) := Fld.ldN (r := Q_flurrylaw10_Op) (s := Q_flurrylaw10_Op) Fld.self hg K
theorem St_flurrylaw10_Op {w0 w : World} {As : List Asn} {g : Nat} {t : TypeId} {a} {b} {K : World → Prop} (hs : Sep w0 w (blk g (Rdr.cells Q_flurrylaw10_Op a).toArray t :: As)) (h1 : ∀ u ∈ Rdr.cells Q_flurrylaw10_Op b, u.oneCell' = true) (h : ∀ w', Sep w0 w' (blk g (Rdr.cells Q_flurrylaw10_Op b).toArray t :: As) → K w') : stN 37 (.pointer (some ⟨g, 0, none⟩)) (.agg (Rdr.cells Q_flurrylaw10_Op b).toArray) w K := Fld.stN (r := Q_flurrylaw10_Op) (s := Q_flurrylaw10_Op) Fld.self hs h1 h
theorem L_flurrylaw10_Op__Do {h : Heap} {g : Nat} {t : TypeId} {fr : Nat × Nat} {a} (hg : h[g]? = some (.cells (Rdr.cells Q_flurrylaw10_Op a).toArray t fr)) (K : Value → Prop) : ld1 (.pointer (some ⟨g, 0, none⟩)) h K = K (.int .i64 a.1) := Fld.ldI (r := Q_flurrylaw10_Op) (Fld.fst Fld.self) hg K
theorem L_flurrylaw10_Op__N {h : Heap} {g : Nat} {t : TypeId} {fr : Nat × Nat} {a} (hg : h[g]? = some (.cells (Rdr.cells Q_flurrylaw10_Op a).toArray t fr)) (K : Value → Prop) : ld1 (.pointer (some ⟨g, 1, none⟩)) h K = K (.int .i64 a.2.1) := Fld.ldI (r := Q_flurrylaw10_Op) (Fld.snd (Fld.fst Fld.self)) hg K
theorem L_flurrylaw10_Op__Data {h : Heap} {g : Nat} {t : TypeId} {fr : Nat × Nat} {a} (hg : h[g]? = some (.cells (Rdr.cells Q_flurrylaw10_Op a).toArray t fr)) (K : Value → Prop) : ld1 (.pointer (some ⟨g, 2, none⟩)) h K = K (a.2.2.1) := Fld.ld1 (r := Q_flurrylaw10_Op) (Fld.snd (Fld.snd (Fld.fst Fld.self))) hg K
theorem L_flurrylaw10_Op__B {h : Heap} {g : Nat} {t : TypeId} {fr : Nat × Nat} {a} (hg : h[g]? = some (.cells (Rdr.cells Q_flurrylaw10_Op a).toArray t fr)) (K : Value → Prop) : ldN 34 (.pointer (some ⟨g, 3, none⟩)) h K = K (.agg (Rdr.cells Q_api_Block a.2.2.2).toArray) := Fld.ldN (r := Q_flurrylaw10_Op) (s := Q_api_Block) (Fld.snd (Fld.snd (Fld.snd Fld.self))) hg K
theorem L_flurrylaw10_Op__B_Parent {h : Heap} {g : Nat} {t : TypeId} {fr : Nat × Nat} {a} (hg : h[g]? = some (.cells (Rdr.cells Q_flurrylaw10_Op a).toArray t fr)) (K : Value → Prop) : ldN 32 (.pointer (some ⟨g, 3, none⟩)) h K = K (.agg (Rdr.cells (rVec 32) a.2.2.2.1).toArray) := Fld.ldN (r := Q_flurrylaw10_Op) (s := (rVec 32)) (Fld.snd (Fld.snd (Fld.snd (Fld.fst Fld.self)))) hg K
theorem L_flurrylaw10_Op__B_Height {h : Heap} {g : Nat} {t : TypeId} {fr : Nat × Nat} {a} (hg : h[g]? = some (.cells (Rdr.cells Q_flurrylaw10_Op a).toArray t fr)) (K : Value → Prop) : ld1 (.pointer (some ⟨g, 35, none⟩)) h K = K (.int .i64 a.2.2.2.2.1) := Fld.ldI (r := Q_flurrylaw10_Op) (Fld.snd (Fld.snd (Fld.snd (Fld.snd (Fld.fst Fld.self))))) hg K
theorem L_flurrylaw10_Op__B_Data {h : Heap} {g : Nat} {t : TypeId} {fr : Nat × Nat} {a} (hg : h[g]? = some (.cells (Rdr.cells Q_flurrylaw10_Op a).toArray t fr)) (K : Value → Prop) : ld1 (.pointer (some ⟨g, 36, none⟩)) h K = K (a.2.2.2.2.2) := Fld.ld1 (r := Q_flurrylaw10_Op) (Fld.snd (Fld.snd (Fld.snd (Fld.snd (Fld.snd Fld.self))))) hg K
theorem one_flurrylaw10_Op {a} (h0 : (a.2.2.1).oneCell' = true) (h1 : (a.2.2.2.2.2).oneCell' = true) : ∀ u ∈ Rdr.cells Q_flurrylaw10_Op a, u.oneCell' = true := (onePair oneI (onePair oneI (onePair (oneV h0) (onePair oneVec (onePair oneI (oneV h1))))))
theorem A_flurrylaw10_Op (w : World) : (Instr.alloc T_flurrylaw10_Op true (.tuple #[])).run P w = .ok (.pointer (some ⟨w.heap.size, 0, none⟩)) (w.alloc (.cells (Rdr.cells Q_flurrylaw10_Op ((0 : Int), (0 : Int), ((Value.slice none 0 0)), ((vz 32), (0 : Int), ((Value.slice none 0 0))))).toArray T_flurrylaw10_Op)) := by kernel_rfl
abbrev Q_chain_held := qv
theorem L_chain_held {h : Heap} {g : Nat} {t : TypeId} {fr : Nat × Nat} {a} (hg : h[g]? = some (.cells (Rdr.cells Q_chain_held a).toArray t fr)) (K : Value → Prop) : ldN 1 (.pointer (some ⟨g, 0, none⟩)) h K = K (.agg (Rdr.cells Q_chain_held a).toArray) := Fld.ldN (r := Q_chain_held) (s := Q_chain_held) Fld.self hg K
theorem L_chain_held__Tape {h : Heap} {g : Nat} {t : TypeId} {fr : Nat × Nat} {a} (hg : h[g]? = some (.cells (Rdr.cells Q_chain_held a).toArray t fr)) (K : Value → Prop) : ld1 (.pointer (some ⟨g, 0, none⟩)) h K = K (a) := Fld.ld1 (r := Q_chain_held) Fld.self hg K
theorem pl_chain_held : ((fsOf P T_chain_held).toList.mapM fun f : Field => (P.info? f.type).map fun i => (f.offset, i.size)) = some (#[(0, 1)] : Array (Nat × Nat)).toList := by kernel_rfl
theorem z_chain_held : ((P.info? T_chain_held).bind fun it => it.zero.map fun z => z.cells) = some (Rdr.cells Q_chain_held (((Value.pointer none)))).toArray := by kernel_rfl
abbrev Q_flurryref10_Chain := (Rdr.pair qv (Rdr.pair qv rBool))
theorem L_flurryref10_Chain {h : Heap} {g : Nat} {t : TypeId} {fr : Nat × Nat} {a} (hg : h[g]? = some (.cells (Rdr.cells Q_flurryref10_Chain a).toArray t fr)) (K : Value → Prop) : ldN 3 (.pointer (some ⟨g, 0, none⟩)) h K = K (.agg (Rdr.cells Q_flurryref10_Chain a).toArray) := Fld.ldN (r := Q_flurryref10_Chain) (s := Q_flurryref10_Chain) Fld.self hg K
theorem L_flurryref10_Chain__T {h : Heap} {g : Nat} {t : TypeId} {fr : Nat × Nat} {a} (hg : h[g]? = some (.cells (Rdr.cells Q_flurryref10_Chain a).toArray t fr)) (K : Value → Prop) : ld1 (.pointer (some ⟨g, 0, none⟩)) h K = K (a.1) := Fld.ld1 (r := Q_flurryref10_Chain) (Fld.fst Fld.self) hg K
theorem L_flurryref10_Chain__L {h : Heap} {g : Nat} {t : TypeId} {fr : Nat × Nat} {a} (hg : h[g]? = some (.cells (Rdr.cells Q_flurryref10_Chain a).toArray t fr)) (K : Value → Prop) : ld1 (.pointer (some ⟨g, 1, none⟩)) h K = K (a.2.1) := Fld.ld1 (r := Q_flurryref10_Chain) (Fld.snd (Fld.fst Fld.self)) hg K
theorem St_flurryref10_Chain__L {w0 w : World} {As : List Asn} {g : Nat} {t : TypeId} {a} {b} {K : World → Prop} (hs : Sep w0 w (blk g (Rdr.cells Q_flurryref10_Chain a).toArray t :: As)) (h1 : b.oneCell' = true) (h : ∀ w', Sep w0 w' (blk g (Rdr.cells Q_flurryref10_Chain (a.1, b, a.2.2)).toArray t :: As) → K w') : st1 (.pointer (some ⟨g, 1, none⟩)) (b) w K := Fld.stV (r := Q_flurryref10_Chain) (s := qv) (Fld.snd (Fld.fst Fld.self)) rfl hs h1 h
theorem L_flurryref10_Chain__Off {h : Heap} {g : Nat} {t : TypeId} {fr : Nat × Nat} {a} (hg : h[g]? = some (.cells (Rdr.cells Q_flurryref10_Chain a).toArray t fr)) (K : Value → Prop) : ld1 (.pointer (some ⟨g, 2, none⟩)) h K = K (.bool a.2.2) := Fld.ldB (r := Q_flurryref10_Chain) (Fld.snd (Fld.snd Fld.self)) hg K
theorem St_flurryref10_Chain__Off {w0 w : World} {As : List Asn} {g : Nat} {t : TypeId} {a} {b} {K : World → Prop} (hs : Sep w0 w (blk g (Rdr.cells Q_flurryref10_Chain a).toArray t :: As)) (h : ∀ w', Sep w0 w' (blk g (Rdr.cells Q_flurryref10_Chain (a.1, a.2.1, b)).toArray t :: As) → K w') : st1 (.pointer (some ⟨g, 2, none⟩)) (.bool b) w K := Fld.stV (r := Q_flurryref10_Chain) (s := rBool) (Fld.snd (Fld.snd Fld.self)) rfl hs rfl h
theorem pl_flurryref10_Chain : ((fsOf P T_flurryref10_Chain).toList.mapM fun f : Field => (P.info? f.type).map fun i => (f.offset, i.size)) = some (#[(0, 1), (1, 1), (2, 1)] : Array (Nat × Nat)).toList := by kernel_rfl
theorem z_flurryref10_Chain : ((P.info? T_flurryref10_Chain).bind fun it => it.zero.map fun z => z.cells) = some (Rdr.cells Q_flurryref10_Chain (((Value.pointer none)), ((Value.slice none 0 0)), false)).toArray := by kernel_rfl
abbrev Q_pack_kept := (Rdr.pair rBool (Rdr.pair qv (rInt .i64)))
abbrev Q_pack_Packer := (Rdr.pair Q_pack_kept (rInt .i64))
theorem L_pack_Packer {h : Heap} {g : Nat} {t : TypeId} {fr : Nat × Nat} {a} (hg : h[g]? = some (.cells (Rdr.cells Q_pack_Packer a).toArray t fr)) (K : Value → Prop) : ldN 4 (.pointer (some ⟨g, 0, none⟩)) h K = K (.agg (Rdr.cells Q_pack_Packer a).toArray) := Fld.ldN (r := Q_pack_Packer) (s := Q_pack_Packer) Fld.self hg K
theorem L_pack_Packer__kept {h : Heap} {g : Nat} {t : TypeId} {fr : Nat × Nat} {a} (hg : h[g]? = some (.cells (Rdr.cells Q_pack_Packer a).toArray t fr)) (K : Value → Prop) : ldN 3 (.pointer (some ⟨g, 0, none⟩)) h K = K (.agg (Rdr.cells Q_pack_kept a.1).toArray) := Fld.ldN (r := Q_pack_Packer) (s := Q_pack_kept) (Fld.fst Fld.self) hg K
theorem L_pack_Packer__kept_made {h : Heap} {g : Nat} {t : TypeId} {fr : Nat × Nat} {a} (hg : h[g]? = some (.cells (Rdr.cells Q_pack_Packer a).toArray t fr)) (K : Value → Prop) : ld1 (.pointer (some ⟨g, 0, none⟩)) h K = K (.bool a.1.1) := Fld.ldB (r := Q_pack_Packer) (Fld.fst (Fld.fst Fld.self)) hg K
theorem St_pack_Packer__kept_made {w0 w : World} {As : List Asn} {g : Nat} {t : TypeId} {a} {b} {K : World → Prop} (hs : Sep w0 w (blk g (Rdr.cells Q_pack_Packer a).toArray t :: As)) (h : ∀ w', Sep w0 w' (blk g (Rdr.cells Q_pack_Packer ((b, a.1.2.1, a.1.2.2), a.2)).toArray t :: As) → K w') : st1 (.pointer (some ⟨g, 0, none⟩)) (.bool b) w K := Fld.stV (r := Q_pack_Packer) (s := rBool) (Fld.fst (Fld.fst Fld.self)) rfl hs rfl h
theorem L_pack_Packer__kept_b {h : Heap} {g : Nat} {t : TypeId} {fr : Nat × Nat} {a} (hg : h[g]? = some (.cells (Rdr.cells Q_pack_Packer a).toArray t fr)) (K : Value → Prop) : ld1 (.pointer (some ⟨g, 1, none⟩)) h K = K (a.1.2.1) := Fld.ld1 (r := Q_pack_Packer) (Fld.fst (Fld.snd (Fld.fst Fld.self))) hg K
theorem St_pack_Packer__kept_b {w0 w : World} {As : List Asn} {g : Nat} {t : TypeId} {a} {b} {K : World → Prop} (hs : Sep w0 w (blk g (Rdr.cells Q_pack_Packer a).toArray t :: As)) (h1 : b.oneCell' = true) (h : ∀ w', Sep w0 w' (blk g (Rdr.cells Q_pack_Packer ((a.1.1, b, a.1.2.2), a.2)).toArray t :: As) → K w') : st1 (.pointer (some ⟨g, 1, none⟩)) (b) w K := Fld.stV (r := Q_pack_Packer) (s := qv) (Fld.fst (Fld.snd (Fld.fst Fld.self))) rfl hs h1 h
theorem L_pack_Packer__kept_err {h : Heap} {g : Nat} {t : TypeId} {fr : Nat × Nat} {a} (hg : h[g]? = some (.cells (Rdr.cells Q_pack_Packer a).toArray t fr)) (K : Value → Prop) : ld1 (.pointer (some ⟨g, 2, none⟩)) h K = K (.int .i64 a.1.2.2) := Fld.ldI (r := Q_pack_Packer) (Fld.fst (Fld.snd (Fld.snd Fld.self))) hg K
theorem L_pack_Packer__limit {h : Heap} {g : Nat} {t : TypeId} {fr : Nat × Nat} {a} (hg : h[g]? = some (.cells (Rdr.cells Q_pack_Packer a).toArray t fr)) (K : Value → Prop) : ld1 (.pointer (some ⟨g, 3, none⟩)) h K = K (.int .i64 a.2) := Fld.ldI (r := Q_pack_Packer) (Fld.snd Fld.self) hg K
theorem pl_pack_Packer : ((fsOf P T_pack_Packer).toList.mapM fun f : Field => (P.info? f.type).map fun i => (f.offset, i.size)) = some (#[(0, 3), (3, 1)] : Array (Nat × Nat)).toList := by kernel_rfl
theorem z_pack_Packer : ((P.info? T_pack_Packer).bind fun it => it.zero.map fun z => z.cells) = some (Rdr.cells Q_pack_Packer ((false, ((Value.slice none 0 0)), (0 : Int)), (0 : Int))).toArray := by kernel_rfl
abbrev Q_pack_Unpacker := Q_pack_kept
theorem L_pack_Unpacker {h : Heap} {g : Nat} {t : TypeId} {fr : Nat × Nat} {a} (hg : h[g]? = some (.cells (Rdr.cells Q_pack_Unpacker a).toArray t fr)) (K : Value → Prop) : ldN 3 (.pointer (some ⟨g, 0, none⟩)) h K = K (.agg (Rdr.cells Q_pack_Unpacker a).toArray) := Fld.ldN (r := Q_pack_Unpacker) (s := Q_pack_Unpacker) Fld.self hg K
theorem L_pack_Unpacker__kept {h : Heap} {g : Nat} {t : TypeId} {fr : Nat × Nat} {a} (hg : h[g]? = some (.cells (Rdr.cells Q_pack_Unpacker a).toArray t fr)) (K : Value → Prop) : ldN 3 (.pointer (some ⟨g, 0, none⟩)) h K = K (.agg (Rdr.cells Q_pack_kept a).toArray) := Fld.ldN (r := Q_pack_Unpacker) (s := Q_pack_kept) Fld.self hg K
theorem L_pack_Unpacker__kept_made {h : Heap} {g : Nat} {t : TypeId} {fr : Nat × Nat} {a} (hg : h[g]? = some (.cells (Rdr.cells Q_pack_Unpacker a).toArray t fr)) (K : Value → Prop) : ld1 (.pointer (some ⟨g, 0, none⟩)) h K = K (.bool a.1) := Fld.ldB (r := Q_pack_Unpacker) (Fld.fst Fld.self) hg K
theorem St_pack_Unpacker__kept_made {w0 w : World} {As : List Asn} {g : Nat} {t : TypeId} {a} {b} {K : World → Prop} (hs : Sep w0 w (blk g (Rdr.cells Q_pack_Unpacker a).toArray t :: As)) (h : ∀ w', Sep w0 w' (blk g (Rdr.cells Q_pack_Unpacker ((b, a.2.1, a.2.2))).toArray t :: As) → K w') : st1 (.pointer (some ⟨g, 0, none⟩)) (.bool b) w K := Fld.stV (r := Q_pack_Unpacker) (s := rBool) (Fld.fst Fld.self) rfl hs rfl h
theorem L_pack_Unpacker__kept_b {h : Heap} {g : Nat} {t : TypeId} {fr : Nat × Nat} {a} (hg : h[g]? = some (.cells (Rdr.cells Q_pack_Unpacker a).toArray t fr)) (K : Value → Prop) : ld1 (.pointer (some ⟨g, 1, none⟩)) h K = K (a.2.1) := Fld.ld1 (r := Q_pack_Unpacker) (Fld.snd (Fld.fst Fld.self)) hg K
theorem St_pack_Unpacker__kept_b {w0 w : World} {As : List Asn} {g : Nat} {t : TypeId} {a} {b} {K : World → Prop} (hs : Sep w0 w (blk g (Rdr.cells Q_pack_Unpacker a).toArray t :: As)) (h1 : b.oneCell' = true) (h : ∀ w', Sep w0 w' (blk g (Rdr.cells Q_pack_Unpacker ((a.1, b, a.2.2))).toArray t :: As) → K w') : st1 (.pointer (some ⟨g, 1, none⟩)) (b) w K := Fld.stV (r := Q_pack_Unpacker) (s := qv) (Fld.snd (Fld.fst Fld.self)) rfl hs h1 h
theorem L_pack_Unpacker__kept_err {h : Heap} {g : Nat} {t : TypeId} {fr : Nat × Nat} {a} (hg : h[g]? = some (.cells (Rdr.cells Q_pack_Unpacker a).toArray t fr)) (K : Value → Prop) : ld1 (.pointer (some ⟨g, 2, none⟩)) h K = K (.int .i64 a.2.2) := Fld.ldI (r := Q_pack_Unpacker) (Fld.snd (Fld.snd Fld.self)) hg K
theorem St_pack_Unpacker__kept_err {w0 w : World} {As : List Asn} {g : Nat} {t : TypeId} {a} {b} {K : World → Prop} (hs : Sep w0 w (blk g (Rdr.cells Q_pack_Unpacker a).toArray t :: As)) (h : ∀ w', Sep w0 w' (blk g (Rdr.cells Q_pack_Unpacker ((a.1, a.2.1, b))).toArray t :: As) → K w') : st1 (.pointer (some ⟨g, 2, none⟩)) (.int .i64 b) w K := Fld.stV (r := Q_pack_Unpacker) (s := (rInt .i64)) (Fld.snd (Fld.snd Fld.self)) rfl hs rfl h
theorem A_api_ID (w : World) : (Instr.alloc T_api_ID true (.tuple #[])).run P w = .ok (.pointer (some ⟨w.heap.size, 0, none⟩)) (w.alloc (.cells (Rdr.cells (rVec 32) (vz 32)).toArray T_api_ID)) := by kernel_rfl
theorem L_api_ID {h : Heap} {g : Nat} {t : TypeId} {fr : Nat × Nat} {a} (hg : h[g]? = some (.cells (Rdr.cells (rVec 32) a).toArray t fr)) (K : Value → Prop) : ldN 32 (.pointer (some ⟨g, 0, none⟩)) h K = K (.agg (Rdr.cells (rVec 32) a).toArray) := Fld.ldN (r := rVec 32) (s := rVec 32) Fld.self hg K
theorem St_api_ID {w0 w : World} {As : List Asn} {g : Nat} {t : TypeId} {a} {b} {K : World → Prop} (hs : Sep w0 w (blk g (Rdr.cells (rVec 32) a).toArray t :: As)) (h : ∀ w', Sep w0 w' (blk g (Rdr.cells (rVec 32) b).toArray t :: As) → K w') : stN 32 (.pointer (some ⟨g, 0, none⟩)) (.agg (Rdr.cells (rVec 32) b).toArray) w K := Fld.stN (r := rVec 32) (s := rVec 32) Fld.self hs oneVec h
theorem EQ_api_ID : EqT P T_api_ID (rVec 32) true 2 := eqT_vec U_api_ID U_uint8 (by kernel_rfl) (by kernel_rfl)
theorem eq_api_ID {x y : Operand} {w : World} {a b : Vec 32} (K : Value → Prop) : rdP P (eqS .eql T_api_ID x y (.agg (Rdr.cells (rVec 32) a).toArray) (.agg (Rdr.cells (rVec 32) b).toArray)) w K = K (.bool (decide (a = b))) := eqS_agg EQ_api_ID (by decide) (by kernel_rfl) K
theorem ne_api_ID {x y : Operand} {w : World} {a b : Vec 32} (K : Value → Prop) : rdP P (eqS .neq T_api_ID x y (.agg (Rdr.cells (rVec 32) a).toArray) (.agg (Rdr.cells (rVec 32) b).toArray)) w K = K (.bool (!decide (a = b))) := neS_agg EQ_api_ID (by decide) (by kernel_rfl) K
theorem B_api_Block  {w : World}  (K : Value → Prop) : rdP P (Instr.build T_api_Block #[]) w K = K (.agg (Rdr.cells Q_api_Block ((vz 32), (0 : Int), ((Value.slice none 0 0)))).toArray) := by
  refine rd_build ?_ K
  refine (built_struct z_api_Block U_api_Block pl_api_Block).trans ?_
  rfl
theorem B_api_Block_0_1_2 {b0} {b1 : Int} {b2 : Value} {w : World} (h2 : b2.oneCell' = true) (K : Value → Prop) : rdP P (Instr.build T_api_Block #[(0, .agg (Rdr.cells (rVec 32) b0).toArray), (1, .int .i64 b1), (2, b2)]) w K = K (.agg (Rdr.cells Q_api_Block (b0, b1, b2)).toArray) := by
  refine rd_build ?_ K
  refine (built_struct z_api_Block U_api_Block pl_api_Block).trans ?_
  refine Eq.trans (fill_step (r := Q_api_Block) (s := (rVec 32)) (Fld.fst Fld.self) (a := ((vz 32), (0 : Int), ((Value.slice none 0 0)))) rfl rfl) ?_
  refine Eq.trans (fill_step (r := Q_api_Block) (s := (rInt .i64)) (Fld.snd (Fld.fst Fld.self)) (a := (b0, (0 : Int), ((Value.slice none 0 0)))) rfl rfl) ?_
  refine Eq.trans (fill_step (r := Q_api_Block) (s := qv) (Fld.snd (Fld.snd Fld.self)) (a := (b0, b1, ((Value.slice none 0 0)))) rfl (cells_one h2)) ?_
  rfl
theorem B_api_Block_1_2 {b1 : Int} {b2 : Value} {w : World} (h2 : b2.oneCell' = true) (K : Value → Prop) : rdP P (Instr.build T_api_Block #[(1, .int .i64 b1), (2, b2)]) w K = K (.agg (Rdr.cells Q_api_Block ((vz 32), b1, b2)).toArray) := by
  refine rd_build ?_ K
  refine (built_struct z_api_Block U_api_Block pl_api_Block).trans ?_
  refine Eq.trans (fill_step (r := Q_api_Block) (s := (rInt .i64)) (Fld.snd (Fld.fst Fld.self)) (a := ((vz 32), (0 : Int), ((Value.slice none 0 0)))) rfl rfl) ?_
  refine Eq.trans (fill_step (r := Q_api_Block) (s := qv) (Fld.snd (Fld.snd Fld.self)) (a := ((vz 32), b1, ((Value.slice none 0 0)))) rfl (cells_one h2)) ?_
  rfl
theorem B_api_Block_2 {b2 : Value} {w : World} (h2 : b2.oneCell' = true) (K : Value → Prop) : rdP P (Instr.build T_api_Block #[(2, b2)]) w K = K (.agg (Rdr.cells Q_api_Block ((vz 32), (0 : Int), b2)).toArray) := by
  refine rd_build ?_ K
  refine (built_struct z_api_Block U_api_Block pl_api_Block).trans ?_
  refine Eq.trans (fill_step (r := Q_api_Block) (s := qv) (Fld.snd (Fld.snd Fld.self)) (a := ((vz 32), (0 : Int), ((Value.slice none 0 0)))) rfl (cells_one h2)) ?_
  rfl
theorem B_flurrylaw10_named_0_1 {b0} {b1} {w : World}  (K : Value → Prop) : rdP P (Instr.build T_flurrylaw10_named #[(0, .agg (Rdr.cells (rVec 32) b0).toArray), (1, .agg (Rdr.cells Q_api_Block b1).toArray)]) w K = K (.agg (Rdr.cells Q_flurrylaw10_named (b0, b1)).toArray) := by
  refine rd_build ?_ K
  refine (built_struct z_flurrylaw10_named U_flurrylaw10_named pl_flurrylaw10_named).trans ?_
  refine Eq.trans (fill_step (r := Q_flurrylaw10_named) (s := (rVec 32)) (Fld.fst Fld.self) (a := ((vz 32), ((vz 32), (0 : Int), ((Value.slice none 0 0))))) rfl rfl) ?_
  refine Eq.trans (fill_step (r := Q_flurrylaw10_named) (s := Q_api_Block) (Fld.snd Fld.self) (a := (b0, ((vz 32), (0 : Int), ((Value.slice none 0 0))))) rfl rfl) ?_
  rfl
theorem B_flurrylaw10_world_0_2 {b0 : Value} {b2 : Value} {w : World} (h0 : b0.oneCell' = true) (h2 : b2.oneCell' = true) (K : Value → Prop) : rdP P (Instr.build T_flurrylaw10_world #[(0, b0), (2, b2)]) w K = K (.agg (Rdr.cells Q_flurrylaw10_world (b0, ((Value.pointer none)), b2, ((Value.pointer none)))).toArray) := by
  refine rd_build ?_ K
  refine (built_struct z_flurrylaw10_world U_flurrylaw10_world pl_flurrylaw10_world).trans ?_
  refine Eq.trans (fill_step (r := Q_flurrylaw10_world) (s := qv) (Fld.fst Fld.self) (a := (((Value.pointer none)), ((Value.pointer none)), ((Value.pointer none)), ((Value.pointer none)))) rfl (cells_one h0)) ?_
  refine Eq.trans (fill_step (r := Q_flurrylaw10_world) (s := qv) (Fld.snd (Fld.snd (Fld.fst Fld.self))) (a := (b0, ((Value.pointer none)), ((Value.pointer none)), ((Value.pointer none)))) rfl (cells_one h2)) ?_
  rfl
theorem B_chain_Chain_0_3 {b0 : Value} {b3 : Value} {w : World} (h0 : b0.oneCell' = true) (h3 : b3.oneCell' = true) (K : Value → Prop) : rdP P (Instr.build T_chain_Chain #[(0, b0), (3, b3)]) w K = K (.agg (Rdr.cells Q_chain_Chain (b0, ((Value.slice none 0 0)), ((Value.slice none 0 0)), b3, false)).toArray) := by
  refine rd_build ?_ K
  refine (built_struct z_chain_Chain U_chain_Chain pl_chain_Chain).trans ?_
  refine Eq.trans (fill_step (r := Q_chain_Chain) (s := qv) (Fld.fst Fld.self) (a := (((Value.pointer none)), ((Value.slice none 0 0)), ((Value.slice none 0 0)), ((Value.map none)), false)) rfl (cells_one h0)) ?_
  refine Eq.trans (fill_step (r := Q_chain_Chain) (s := qv) (Fld.snd (Fld.snd (Fld.snd (Fld.fst Fld.self)))) (a := (b0, ((Value.slice none 0 0)), ((Value.slice none 0 0)), ((Value.map none)), false)) rfl (cells_one h3)) ?_
  rfl
theorem B_chain_held_0 {b0 : Value} {w : World} (h0 : b0.oneCell' = true) (K : Value → Prop) : rdP P (Instr.build T_chain_held #[(0, b0)]) w K = K (.agg (Rdr.cells Q_chain_held (b0)).toArray) := by
  refine rd_build ?_ K
  refine (built_struct z_chain_held U_chain_held pl_chain_held).trans ?_
  refine Eq.trans (fill_step (r := Q_chain_held) (s := qv) Fld.self (a := (((Value.pointer none)))) rfl (cells_one h0)) ?_
  rfl
theorem B_flurryref10_Chain_0_1 {b0 : Value} {b1 : Value} {w : World} (h0 : b0.oneCell' = true) (h1 : b1.oneCell' = true) (K : Value → Prop) : rdP P (Instr.build T_flurryref10_Chain #[(0, b0), (1, b1)]) w K = K (.agg (Rdr.cells Q_flurryref10_Chain (b0, b1, false)).toArray) := by
  refine rd_build ?_ K
  refine (built_struct z_flurryref10_Chain U_flurryref10_Chain pl_flurryref10_Chain).trans ?_
  refine Eq.trans (fill_step (r := Q_flurryref10_Chain) (s := qv) (Fld.fst Fld.self) (a := (((Value.pointer none)), ((Value.slice none 0 0)), false)) rfl (cells_one h0)) ?_
  refine Eq.trans (fill_step (r := Q_flurryref10_Chain) (s := qv) (Fld.snd (Fld.fst Fld.self)) (a := (b0, ((Value.slice none 0 0)), false)) rfl (cells_one h1)) ?_
  rfl
theorem B_pack_Packer_1 {b1 : Int} {w : World}  (K : Value → Prop) : rdP P (Instr.build T_pack_Packer #[(1, .int .i64 b1)]) w K = K (.agg (Rdr.cells Q_pack_Packer ((false, ((Value.slice none 0 0)), (0 : Int)), b1)).toArray) := by
  refine rd_build ?_ K
  refine (built_struct z_pack_Packer U_pack_Packer pl_pack_Packer).trans ?_
  refine Eq.trans (fill_step (r := Q_pack_Packer) (s := (rInt .i64)) (Fld.snd Fld.self) (a := ((false, ((Value.slice none 0 0)), (0 : Int)), (0 : Int))) rfl rfl) ?_
  rfl
abbrev R_int64 := (rInt .i64)
theorem TR_int64 : Trods P T_int64 R_int64 := trods_int U_int64
abbrev R_int := (rInt .i64)
theorem TR_int : Trods P T_int R_int := trods_int U_int
abbrev R_sl_uint8 := rBytes
theorem TR_sl_uint8 : Trods P T_sl_uint8 R_sl_uint8 := trods_bytes U_sl_uint8 U_uint8 (by kernel_rfl)
theorem O_sl_uint8 {H : Type} {enc : TypeId × Value → H} {w : World} {sp : Nat → Bool} {held : Bool} {fuel : Nat} {v : Value} {x : DataW H × List MemPlace} (h : DataW.trod enc P w 0 sp held fuel T_sl_uint8 [v] = some x) : ∃ l, Rdr.ok R_sl_uint8 w.heap ⟨v, l⟩ := by
  obtain ⟨⟨v', l⟩, e, ok⟩ := TR_sl_uint8 H enc w sp held fuel _ x h
  have ev : v = v' := (List.cons.inj e).1
  subst ev
  exact ⟨l, ok⟩
abbrev R_api_ID := (rVec 32)
theorem TR_api_ID : Trods P T_api_ID R_api_ID := trods_vec U_api_ID U_uint8 (by kernel_rfl) (by kernel_rfl)
abbrev R_api_Block := (Rdr.pair R_api_ID (Rdr.pair R_int64 R_sl_uint8))
theorem TR_api_Block : Trods P T_api_Block R_api_Block := trods_struct U_api_Block (by kernel_rfl) (trodsF_cons (by kernel_rfl) (by kernel_rfl) TR_api_ID (trodsF_cons (by kernel_rfl) (by kernel_rfl) TR_int64 (trodsF_last (by kernel_rfl) (by kernel_rfl) TR_sl_uint8)))
abbrev R_flurrylaw10_Op := (Rdr.pair R_int (Rdr.pair R_int (Rdr.pair R_sl_uint8 R_api_Block)))
theorem TR_flurrylaw10_Op : Trods P T_flurrylaw10_Op R_flurrylaw10_Op := trods_struct U_flurrylaw10_Op (by kernel_rfl) (trodsF_cons (by kernel_rfl) (by kernel_rfl) TR_int (trodsF_cons (by kernel_rfl) (by kernel_rfl) TR_int (trodsF_cons (by kernel_rfl) (by kernel_rfl) TR_sl_uint8 (trodsF_last (by kernel_rfl) (by kernel_rfl) TR_api_Block))))
abbrev R_sl_flurrylaw10_Op := (rSl R_flurrylaw10_Op)
theorem TR_sl_flurrylaw10_Op : Trods P T_sl_flurrylaw10_Op R_sl_flurrylaw10_Op := trods_sl TR_flurrylaw10_Op U_sl_flurrylaw10_Op (by kernel_rfl) (by decide)
theorem O_sl_flurrylaw10_Op {H : Type} {enc : TypeId × Value → H} {w : World} {sp : Nat → Bool} {held : Bool} {fuel : Nat} {v : Value} {x : DataW H × List MemPlace} (h : DataW.trod enc P w 0 sp held fuel T_sl_flurrylaw10_Op [v] = some x) : ∃ l, Rdr.ok R_sl_flurrylaw10_Op w.heap ⟨v, l⟩ := by
  obtain ⟨⟨v', l⟩, e, ok⟩ := TR_sl_flurrylaw10_Op H enc w sp held fuel _ x h
  have ev : v = v' := (List.cons.inj e).1
  subst ev
  exact ⟨l, ok⟩
theorem UT_bytes : P.underlying T_sl_uint8 = some (.slice T_uint8) := U_sl_uint8
theorem ST_bytes : SlT P T_sl_uint8 T_uint8 1 1 := S_sl_uint8
theorem ZC_uint8 : zc P T_uint8 = #[.int .u8 0] := by kernel_rfl
theorem UT_uint8 : P.underlying T_uint8 = some (.int .u8) := U_uint8
theorem UT_string : P.underlying T_string = some .string := by kernel_rfl
end Go.Fx
set_option linter.unusedVariables false
set_option linter.unusedSimpArgs false
namespace Go.Fx
theorem take_more {α : Type} {l m : List α} {i : Nat} (h : l.take i = m.take i) (h2 : l[i]? = m[i]?) : l.take (i + 1) = m.take (i + 1) := by rw [List.take_add_one, List.take_add_one, h, h2]
theorem drH_T {w0 w : World} {As : List Asn} {K : (World → Prop) → World → Prop} (hs : Sep w0 w As) (h : ∀ w', Sep w0 w' As → w'.heap = w.heap → K (fun _ => True) w') : drH w K := ⟨_, trivial, h _ (hs.drew _) rfl⟩
theorem efC_T {f : World → (Value → World → Prop) → Prop} {w : World} {K : (World → Prop) → Value → World → Prop} (hm : ∀ K' K'' : Value → World → Prop, (∀ v w, K' v w → K'' v w) → f w K' → f w K'') (h : f w fun v w' => K (fun _ => True) v w') : efC f w K :=
  hm _ _ (fun v w' hk => ⟨_, trivial, hk⟩) h
theorem efC_calT {P : Program} {f : FuncId} {args : List Value} {w : World} {K : (World → Prop) → Value → World → Prop} (h : cal P f args w fun v w' => K (fun _ => True) v w') : efC (cal P f args) w K := efC_T (fun _ _ hk h => cal_i h hk) h
/-- So many bytes of a name, the others nothing. -/
def part (o : List UInt8) (i : Nat) : List UInt8 := o.take i ++ List.replicate (o.length - i) 0
theorem part_len (o : List UInt8) {i : Nat} (hi : i ≤ o.length) : (part o i).length = o.length := by simp [part]; omega
theorem part_set {o : List UInt8} {i : Nat} {b : UInt8} (hb : o[i]? = some b) : (part o i).set i b = part o (i + 1) := by
  have hi := (List.getElem?_eq_some_iff.1 hb).1
  have hl : (o.take i).length = i := by simp; omega
  unfold part
  rw [List.set_append_right _ _ (by omega), hl, Nat.sub_self, show o.length - i = (o.length - (i + 1)) + 1 by omega, List.replicate_succ, List.set_cons_zero, List.take_add_one, hb]
  simp
theorem part_zero (o : List UInt8) : part o 0 = List.replicate o.length 0 := by simp [part]
theorem part_all {o : List UInt8} : part o o.length = o := by simp [part]
section
variable {w0 w : World} {As : List Asn} {b s : Value} {l m : List UInt8}
theorem efC_calA {P : Program} {f : FuncId} {args : List Value} {w0 w : World} {As : List Asn} {K : (World → Prop) → Value → World → Prop} (h : cal P f args w fun v w' => Sep w0 w' As ∧ K (fun u => Sep w0 u As) v w') : efC (cal P f args) w K :=
  cal_i h fun v w' hk => ⟨_, hk.1, hk.2⟩
theorem st_b {g i : Nat} {o : List UInt8} {t : TypeId} {u : UInt8} {K : World → Prop} (hs : Sep w0 w (blk g (bvs (part o i)).toArray t :: As)) (hu : o[i]? = some u)
    (h : ∀ w', Sep w0 w' (blk g (bvs (part o (i + 1))).toArray t :: As) → K w') : st1 (.pointer (some ⟨g, i, none⟩)) (bv u) w K := by
  have hi := (List.getElem?_eq_some_iff.1 hu).1
  refine st1_s hs (by simp [bvs, part_len o (Nat.le_of_lt hi)]; omega) rfl fun w' hs' => h w' ?_
  have e : (bvs (part o i)).toArray.setIfInBounds i (bv u) = (bvs (part o (i + 1))).toArray := by
    rw [← part_set hu]
    apply Array.ext'
    simp [bvs, List.map_set]
  rw [e] at hs'
  exact hs'
theorem ixa_w {g n : Nat} (k : IntKind) {i : Nat} (hi : i < n) (K : Value → Prop) : ixa n 1 (.pointer (some ⟨g, 0, none⟩)) (.int k (i : Int)) K = K (.pointer (some ⟨g, i, none⟩)) := by
  rw [ixa_mk _ _ _ _ _ _ _ (by omega) (by omega), Int.toNat_natCast, Nat.zero_add, Nat.mul_one]
theorem app1 {u : UInt8} {K : Value → World → Prop} (hs : Sep w0 w (ownB s l :: As)) (hl : l.length ≤ 1000000) (hk : ∀ v' w', Sep w0 w' (ownB v' (l ++ [u]) :: As) → K v' w') :
    efP P (Instr.buildSlice T_sl_uint8 1 #[(0, bv u)]) w fun t w => efP P (Builtin.append_ #[T_sl_uint8, T_sl_uint8] T_sl_uint8 #[s, t]) w K := by
  have hr : ∀ w : World, (Instr.buildSlice T_sl_uint8 1 #[(0, bv u)]).run P w = .ok (.slice (some ⟨w.heap.size, 0, none⟩) 1 1) (w.alloc (.cells (bvs [u]).toArray T_uint8)) := fun w => by kernel_rfl
  refine buildB_s (l := [u]) hs rfl (hr w) fun g w1 h1 => ?_
  exact appB_s S_sl_uint8 U_sl_uint8 (by simp) h1.p1 h1.rd (by simp; omega) fun v' w' h2 => hk v' w' h2.d1
theorem app0 {K : Value → World → Prop} (j : Int) (hj : j = 0 ∨ j = 128) (hs : Sep w0 w (ownB s l :: As)) (hl : l.length ≤ 1000000) (hk : ∀ v' w', Sep w0 w' (ownB v' (l ++ [if j = 0 then 0 else 128]) :: As) → K v' w') :
    efP P (Instr.buildSlice T_sl_uint8 1 #[(0, .int .u8 j)]) w fun t w => efP P (Builtin.append_ #[T_sl_uint8, T_sl_uint8] T_sl_uint8 #[s, t]) w K := by
  rcases hj with rfl | rfl
  · exact app1 (u := 0) hs hl hk
  · exact app1 (u := 128) hs hl hk
theorem bEqual_spec {x y : Value} {l m : List UInt8} (hx : RdB w.heap x l) (hy : RdB w.heap y m) : cal P f_bytes_Equal [x, y] w fun v w' => v = .bool (l == m) ∧ w = w' := by
  refine s_bytes_Equal fun R hR => ?_
  unfold c_bytes_Equal
  rw [rdP_eq (conv_str UT_bytes UT_uint8 UT_string hx), rdP_eq (conv_str UT_bytes UT_uint8 UT_string hy), eqS_str]
  exact hR _ _ ⟨rfl, rfl⟩
theorem bClone_spec (hb : RdB w.heap b l) (hl : l.length ≤ 140737488355328) : cal P f_bytes_Clone [b] w fun r w' => Sep w w' [ownB r l] := by
  refine s_bytes_Clone fun R hR => ?_
  unfold c_bytes_Clone
  obtain ⟨a, c, hv, hl', hh⟩ := id hb
  subst hv
  cases a with
  | none =>
    have h0 : l = [] := by
      rcases hh with h0 | ⟨_, _, _, _, _, h, _⟩
      · exact List.eq_nil_of_length_eq_zero (by omega)
      · cases h
    subst h0
    simp only [fx, Nat.reduceAdd, forall_const]
    exact hR _ _ (Sep.start w).nil
  | some a =>
    simp only [fx, Nat.reduceAdd, forall_const]
    have hb1 : ∀ w : World, (Instr.buildSlice T_sl_uint8 0 #[]).run P w = .ok (.slice (some ⟨w.heap.size, 0, none⟩) 0 0) (w.alloc (.cells (bvs []).toArray T_uint8)) := fun w => by kernel_rfl
    refine buildB_s (l := []) (Sep.start w) rfl (hb1 _) fun g w1 hs => ?_
    refine appB_s S_sl_uint8 U_sl_uint8 (by simp) hs (hs.rdB hb) (by simp; omega) fun v' w2 hs => ?_
    exact hR _ _ (by simpa using hs)
end
/-- 'for i := range d { d[i] ^= 255 }', d owned: it is still owned. -/
def flip (l : List UInt8) (i : Nat) : List UInt8 := (l.take i).map (· ^^^ 255) ++ l.drop i
theorem flip_len (l : List UInt8) (i : Nat) : (flip l i).length = l.length := by simp [flip]; omega
theorem flip_zero (l : List UInt8) : flip l 0 = l := by simp [flip]
theorem flip_get {l : List UInt8} {i : Nat} (h : i < l.length) : (flip l i)[i]'(by rw [flip_len]; exact h) = l[i] := by
  have e : ((l.take i).map (· ^^^ (255 : UInt8))).length = i := by simp; omega
  have h2 : (flip l i)[i]? = some l[i] := by
    unfold flip
    rw [List.getElem?_append_right (by omega), e, Nat.sub_self, List.getElem?_drop, Nat.add_zero, List.getElem?_eq_getElem h]
  rw [List.getElem?_eq_getElem (by rw [flip_len]; exact h)] at h2
  exact Option.some.inj h2
theorem flip_set {l : List UInt8} {i : Nat} (h : i < l.length) : (flip l i).set i (l[i] ^^^ 255) = flip l (i + 1) := by
  have e : ((l.take i).map (· ^^^ (255 : UInt8))).length = i := by simp; omega
  unfold flip
  rw [List.set_append_right _ _ (by omega), e, Nat.sub_self, List.drop_eq_getElem_cons h, List.set_cons_zero, List.take_succ_eq_append_getElem h, List.map_append, List.append_assoc]
  rfl
theorem xor255 (b : UInt8) (K : Value → Prop) : bi .xor (bv b) (.int .u8 255) K = K (bv (b ^^^ 255)) := by
  have e : (Value.int .u8 255) = bv 255 := rfl
  rw [e]
  unfold bv
  rw [bi_xor]
  have h1 : BitVec.ofInt 8 (b.toNat : Int) = b.toBitVec := by
    apply BitVec.eq_of_toNat_eq
    rw [BitVec.toNat_ofInt]
    have := b.toNat_lt
    have e : b.toBitVec.toNat = b.toNat := rfl
    omega
  have h2 : BitVec.ofInt 8 ((255 : UInt8).toNat : Int) = (255 : UInt8).toBitVec := rfl
  have h3 : (b ^^^ 255).toNat = (b.toBitVec ^^^ (255 : UInt8).toBitVec).toNat := rfl
  have h4 := (b ^^^ 255).toNat_lt
  show K (.int .u8 (IntKind.u8.wrap ((BitVec.ofInt 8 (b.toNat : Int) ^^^ BitVec.ofInt 8 ((255 : UInt8).toNat : Int)).toNat : Int))) = _
  rw [h1, h2, ← h3, wu8i (by omega) (by omega)]
end Go.Fx
set_option linter.unusedVariables false
set_option linter.unusedSimpArgs false
namespace Go.Fx
/-! ### Some of the assertions, in an order -/
def pickL (L : List Asn) : List Nat → List Asn → List Asn
  | [], T => T
  | i :: is, T => match L[i]? with
    | some A => A :: pickL L is T
    | none => pickL L is T
theorem sub_perm {α : Type} : ∀ (X P : List α), X.Nodup → (∀ x ∈ X, x ∈ P) → ∃ rest, P.Perm (X ++ rest)
  | [], P, _, _ => ⟨P, .refl _⟩
  | x :: X, P, hn, hs => by
    obtain ⟨s, t, rfl⟩ := List.append_of_mem (hs x (by simp))
    have hn' := List.nodup_cons.1 hn
    obtain ⟨rest, hr⟩ := sub_perm X (s ++ t) hn'.2 fun y hy => by
      have := hs y (by simp [hy])
      simp only [List.mem_append, List.mem_cons] at this ⊢
      rcases this with h | h | h
      · exact .inl h
      · subst h; exact absurd hy hn'.1
      · exact .inr h
    exact ⟨rest, List.perm_middle.trans (hr.cons x)⟩
theorem pickL_eq (L : List Asn) (T : List Asn) : ∀ is : List Nat, pickL L is T = (is.filterMap fun i => L.zipIdx[i]?).map (·.1) ++ T
  | [] => rfl
  | i :: is => by
    rw [pickL, List.filterMap_cons]
    cases h : L[i]? with
    | none =>
      have : L.zipIdx[i]? = none := by simpa using h
      rw [this]
      exact pickL_eq L T is
    | some A =>
      have : L.zipIdx[i]? = some (A, i) := by rw [List.getElem?_zipIdx, h]; simp
      rw [this]
      simp only [List.map_cons, List.cons_append]
      rw [pickL_eq L T is]
theorem pick_nodup (L : List Asn) : ∀ is : List Nat, is.Nodup → (is.filterMap fun i => L.zipIdx[i]?).Nodup ∧ ∀ x ∈ (is.filterMap fun i => L.zipIdx[i]?), x.2 ∈ is
  | [], _ => ⟨by simp, by simp⟩
  | i :: is, h => by
    have h' := List.nodup_cons.1 h
    obtain ⟨h1, h2⟩ := pick_nodup L is h'.2
    rw [List.filterMap_cons]
    cases hi : L.zipIdx[i]? with
    | none => exact ⟨h1, fun x hx => by simp [h2 x hx]⟩
    | some x =>
      have hx : x.2 = i := by
        rw [List.getElem?_zipIdx] at hi
        cases hL : L[i]? with
        | none => simp [hL] at hi
        | some A => simp [hL] at hi; rw [← hi]
      refine ⟨List.nodup_cons.2 ⟨fun hm => h'.1 (hx ▸ h2 x hm), h1⟩, fun y hy => ?_⟩
      rcases List.mem_cons.1 hy with rfl | hy
      · simp [hx]
      · simp [h2 y hy]
theorem Sep.dropL {w0 w : World} : ∀ {As Bs : List Asn}, Sep w0 w (As ++ Bs) → Sep w0 w Bs
  | [], _, h => h
  | _ :: As, _, h => Sep.dropL (As := As) h.tail
/-- The assertions at these places of the first n, and all behind these n. -/
theorem Sep.pick {w0 w : World} {As : List Asn} (h : Sep w0 w As) (is : List Nat) (n : Nat) (hn : is.Nodup := by decide) : Sep w0 w (pickL (As.take n) is (As.drop n)) := by
  obtain ⟨h1, h2⟩ := pick_nodup (As.take n) is hn
  obtain ⟨rest, hr⟩ := sub_perm (is.filterMap fun i => (As.take n).zipIdx[i]?) (As.take n).zipIdx h1 fun x hx => by
    obtain ⟨i, _, hi⟩ := List.mem_filterMap.1 hx
    exact List.mem_of_getElem? hi
  rw [pickL_eq]
  have hp := hr.map (·.1)
  rw [List.map_append, List.zipIdx_map_fst] at hp
  have h3 : Sep w0 w ((rest.map (·.1)) ++ ((is.filterMap fun i => (As.take n).zipIdx[i]?).map (·.1) ++ As.drop n)) := by
    refine h.perm ?_
    have e := List.take_append_drop n As
    rw [← List.append_assoc]
    refine (List.Perm.of_eq e.symm).trans (List.Perm.append_right _ (hp.trans List.perm_append_comm))
  exact h3.dropL
/-! ### '[]byte("..")': new memory that is only read -/
def rdA (v : Value) (l : List UInt8) : Asn where
  on h F := ∃ g o c cur t fr, v = .slice (some ⟨g, o, none⟩) l.length c ∧ h[g]? = some (.cells cur t fr) ∧ (cur.toList.drop o).take l.length = bvs l ∧ l.length ≤ c ∧ F = [g]
  fr := fun ⟨g, o, c, cur, t, fr, hv, hg, hc, hle, hF⟩ hf hn => ⟨g, o, c, cur, t, fr, hv, hf.blk hg (hn g (by simp [hF])), hc, hle, hF⟩
  lt := fun ⟨g, o, c, cur, t, fr, hv, hg, hc, hle, hF⟩ k hk => by simp [hF] at hk; subst hk; exact lt_of_blk hg
theorem Sep.rda {w0 w : World} {As : List Asn} {v : Value} {l : List UInt8} (h : Sep w0 w (rdA v l :: As)) : RdB w.heap v l := by
  obtain ⟨F, g, o, c, cur, t, fr, rfl, hg, hc, hle, rfl⟩ := h.head
  exact ⟨_, c, rfl, by simp [bvs], .inr ⟨g, o, cur, t, fr, rfl, hg, by rw [Nat.mul_one]; exact hc⟩⟩
theorem Sep.rdaCap {w0 w : World} {As : List Asn} {v : Value} {l : List UInt8} (h : Sep w0 w (rdA v l :: As)) : capOk v := by
  obtain ⟨F, g, o, c, cur, t, fr, rfl, hg, hc, hle, rfl⟩ := h.head
  intro a n c' he
  cases he
  exact hle
theorem lit_s {P : Program} {w0 w : World} {As : List Asn} {t E n : Nat} {s : Sem Value} {l : List UInt8} {K : Value → World → Prop} (hs : Sep w0 w As) (ht : P.underlying t = some (.slice E)) (he : P.underlying E = some (.int .u8)) (hn : n = l.length)
    (hr : s.run P w = .ok (.slice (some ⟨w.heap.size, 0, none⟩) n n) (w.alloc (.cells (bvs l).toArray E))) (h : ∀ g w', Sep w0 w' (rdA (.slice (some ⟨g, 0, none⟩) n n) l :: As) → K (.slice (some ⟨g, 0, none⟩) n n) w') :
    efP P s w fun x w => efP P (convert t t x) w K := by
  subst hn
  refine ⟨_, _, hr, _, _, Lib.run_convert_bytes_const w t E _ _ _ ht he, h _ _ (hs.new (fr_alloc w _) (B := rdA _ _) (F' := [w.heap.size]) ⟨_, 0, _, _, E, _, rfl, alloc_new w _, by rw [List.drop_zero]; exact List.take_of_length_le (by simp [bvs]), Nat.le_refl _, rfl⟩ (by simp))⟩
theorem At.rd {h : Heap} {g o c : Nat} {l : List UInt8} (ha : At h g o (bvs l)) : RdB h (.slice (some ⟨g, o, none⟩) l.length c) l := by
  obtain ⟨cur, t, fr, hg, hn, hc⟩ := ha
  refine ⟨_, c, rfl, by simp [bvs], .inr ⟨g, o, cur, t, fr, rfl, hg, ?_⟩⟩
  rw [Nat.mul_one]
  rw [bvs_length] at hc
  exact hc
/-- 'x[:]', x an array. -/
theorem sla_all (len size g o : Nat) (K : Value → Prop) : sla len size (.pointer (some ⟨g, o, none⟩)) none none K = K (.slice (some ⟨g, o, none⟩) len len) := by
  have e : (if len = 0 then (⟨g, o, none⟩ : Addr) else Addr.add ⟨g, o, none⟩ (0 * size)) = ⟨g, o, none⟩ := by
    split
    · rfl
    · rw [Nat.zero_mul, Addr_add_mk, Nat.add_zero]
  refine propext ⟨?_, fun hk => ⟨_, rfl, ?_⟩⟩
  · rintro ⟨a, ha, hk⟩
    cases ha
    simp only [bndO, e, Nat.sub_zero] at hk
    exact hk
  · simp only [bndO, e, Nat.sub_zero]
    exact hk
section
variable {w0 w : World} {As : List Asn} {g n v : Nat} {s ha hc : Value} {a b c : List UInt8}
theorem rdNil (z : World) : RdB z.heap (.slice none 0 0) [] := ⟨none, 0, rfl, rfl, .inl rfl⟩
theorem numberS (hn : n ≤ 8) (hv : v < 18446744073709551616) : cal P f_pack_number [.int .i64 n, .int .u64 v] w fun r w' => Sep w w' [ownB r (be n v)] := by
  refine s_pack_number fun R hR => ?_
  unfold c_pack_number
  refine mkB_s (Sep.start w) ST_bytes ZC_uint8 (by omega) fun g w1 hs => ?_
  simp only [fx, Nat.reduceAdd, forall_const]
  refine ⟨fun a w2 => ∃ i : Nat, i ≤ n ∧ a = .int .i64 i ∧ Sep w w2 [ownB (.slice (some ⟨g, 0, none⟩) n n) (List.replicate (n - i) 0 ++ be i v)], fun a _ => n - (RowKit.intOf a).toNat, ⟨0, by omega, rfl, by simpa [be] using hs⟩, ?_⟩
  rintro _ w2 ⟨i, hi, rfl, hs2⟩ -
  simp only [fx, Nat.reduceAdd, forall_const]
  rw [cnd_bool]
  refine ⟨fun h => ?_, fun h => ?_⟩
  · have hlt : i < n := by simpa using h
    simp (disch := omega) only [fx, Nat.reduceAdd, forall_const, wi64, sh_shr]
    have e1 : IntKind.u64.bits = 64 := rfl
    have e2 : (n : Int) - 1 - i = ((n - 1 - i : Nat) : Int) := by omega
    rw [e1, shr8 v i (by omega), bv_of _ (Int.natCast_nonneg _), Int.toNat_natCast, e2]
    refine stxB_s hs2 (by simp [be_length]; omega) _ fun w3 hs3 => ?_
    refine ⟨⟨i + 1, by omega, by simp, ?_⟩, by simp [RowKit.intOf]; omega⟩
    have e3 : (List.replicate (n - i) (0 : UInt8) ++ be i v).set (n - 1 - i) (UInt8.ofNat (v / 256 ^ i)) = List.replicate (n - (i + 1)) 0 ++ be (i + 1) v := by
      rw [show n - i = (n - (i + 1)) + 1 by omega, List.replicate_succ', List.append_assoc, List.set_append_right _ _ (by simp; omega), be_cons]
      congr 1
      rw [show n - 1 - i - (List.replicate (n - (i + 1)) (0 : UInt8)).length = 0 by simp; omega]
      rfl
    rw [← e3]
    exact hs3
  · have hlt : ¬ i < n := by simpa using h
    obtain rfl : i = n := by omega
    exact hR _ _ (by simpa using hs2)
abbrev pk (g : Nat) (s : Value) (n : Nat) : Asn := blk g (Rdr.cells Q_pack_Packer ((true, s, 0), (n : Int))).toArray T_pack_Packer
theorem worksS (hs : Sep w0 w (pk g s n :: As)) : cal P f_pack_Packer_works [.pointer (some ⟨g, 0, none⟩)] w fun r w' => r = .bool true ∧ w = w' := by
  refine s_pack_Packer_works fun R hR => ?_
  unfold c_pack_Packer_works
  simp only [fx, Nat.reduceAdd, forall_const, L_pack_Packer hs.blk, L_pack_Packer__kept hs.blk, L_pack_Packer__kept_made hs.blk, L_pack_Packer__kept_b hs.blk, L_pack_Packer__kept_err hs.blk, L_pack_Packer__limit hs.blk]
  exact hR _ _ ⟨rfl, rfl⟩
theorem putS (hs : Sep w0 w (pk g s n :: ownB s b :: As)) (hra : ∀ z, Sep w0 z As → RdB z.heap ha a) (hrc : ∀ z, Sep w0 z As → RdB z.heap hc c) (hn : n ≤ 8192) (hf : b.length + a.length + c.length ≤ n) :
    cal P f_pack_Packer_put [.pointer (some ⟨g, 0, none⟩), ha, hc] w fun v w' => v = .tuple #[] ∧ ∃ s', Sep w0 w' (pk g s' n :: ownB s' (b ++ a ++ c) :: As) := by
  refine s_pack_Packer_put fun R hR => ?_
  unfold c_pack_Packer_put
  refine cal_i (worksS hs) ?_
  rintro _ _ ⟨rfl, rfl⟩
  simp only [fx, Nat.reduceAdd, forall_const]
  refine drw_s hs fun w1 hs1 _ => ?_
  have hlb := (Sep.rd hs1.p1).len
  have hla := (hra _ hs1.tail.tail).len
  have hlc := (hrc _ hs1.tail.tail).len
  simp only [fx, Nat.reduceAdd, forall_const, L_pack_Packer hs1.blk, L_pack_Packer__kept hs1.blk, L_pack_Packer__kept_made hs1.blk, L_pack_Packer__kept_b hs1.blk, L_pack_Packer__kept_err hs1.blk, L_pack_Packer__limit hs1.blk, hlb, hla, hlc]
  rw [wi64 (x := (n : Int) - b.length) (by omega) (by omega), decide_eq_false (by omega)]
  simp only [fx, Nat.reduceAdd, forall_const]
  rw [wi64 (by omega) (by omega), decide_eq_false (by omega)]
  simp only [fx, Nat.reduceAdd, forall_const, L_pack_Packer hs1.blk, L_pack_Packer__kept hs1.blk, L_pack_Packer__kept_made hs1.blk, L_pack_Packer__kept_b hs1.blk, L_pack_Packer__kept_err hs1.blk, L_pack_Packer__limit hs1.blk]
  refine appB_s ST_bytes UT_bytes (by simp) hs1.p1 (hra _ hs1.tail.tail) (by omega) fun s1 w2 hs2 => ?_
  refine appB_s ST_bytes UT_bytes (by simp) hs2 (hrc _ hs2.tail.tail) (by simp; omega) fun s2 w3 hs3 => ?_
  refine St_pack_Packer__kept_b hs3.p1 (Sep.one hs3) fun w4 hs4 => ?_
  exact hR _ _ ⟨rfl, s2, hs4⟩
theorem NewS (n : Nat) (hn : n ≤ 8192) : cal P f_pack_New [.int .i64 n] w fun v w' => ∃ g, v = .pointer (some ⟨g, 0, none⟩) ∧ Sep w w' [pk g (.slice none 0 0) n, ownB (.slice none 0 0) []] := by
  refine s_pack_New fun R hR => ?_
  unfold c_pack_New
  rw [B_pack_Packer_1]
  refine bx_s (Sep.start w).nil fun g w1 hs => ?_
  simp only [fx, Nat.reduceAdd, forall_const]
  refine St_pack_Packer__kept_made hs fun w2 hs2 => ?_
  rw [decide_eq_false (by omega), decide_eq_false (by omega)]
  simp only [fx, Nat.reduceAdd, forall_const]
  exact hR _ _ ⟨g, rfl, hs2⟩
/-- What a call on a packer gives. -/
def PkQ (w0 : World) (As : List Asn) (g n : Nat) (b : List UInt8) (v : Value) (w' : World) : Prop := v = .tuple #[] ∧ ∃ s', Sep w0 w' (pk g s' n :: ownB s' b :: As)
section
variable (hs : Sep w0 w (pk g s n :: ownB s b :: As)) (hn : n ≤ 8192)
include hs hn
theorem putnumS {m : Nat} {K : World → Prop} (hrc : ∀ z, Sep w0 z As → RdB z.heap hc c) (hm : m ≤ 8) (hv : v < 18446744073709551616) (hf : b.length + m + c.length ≤ n) (h : ∀ s' w', Sep w0 w' (pk g s' n :: ownB s' (b ++ (be m v ++ c)) :: As) → K w') :
    cal P f_pack_number [.int .i64 m, .int .u64 v] w fun t w => cal P f_pack_Packer_put [.pointer (some ⟨g, 0, none⟩), t, hc] w fun _ w => K w := by
  refine cal_i (numberS hm hv) ?_
  rintro t w1 hs1
  replace hs1 := (hs.join hs1).q2
  refine cal_i (putS (As := ownB t (be m v) :: As) hs1 (fun z hz => Sep.rd hz) (fun z hz => hrc z hz.tail) hn (by rw [be_length]; omega)) ?_
  rintro _ w2 ⟨rfl, s', hs2⟩
  have := hs2.d2
  rw [List.append_assoc] at this
  exact h s' w2 this
theorem ShortS (hv : v < 65536) (hf : b.length + 2 ≤ n) : cal P f_pack_Packer_Short [.pointer (some ⟨g, 0, none⟩), .int .u16 v] w (PkQ w0 As g n (b ++ be 2 v)) := by
  refine s_pack_Packer_Short fun R hR => ?_
  unfold c_pack_Packer_Short
  simp (disch := omega) only [fx, Nat.reduceAdd, forall_const, wu64i]
  refine putnumS (m := 2) hs hn (c := []) (fun z _ => rdNil z) (by omega) (by omega) (by simpa using hf) fun s' w' h => ?_
  rw [List.append_nil] at h
  exact hR _ _ ⟨rfl, s', h⟩
theorem IntS (hv : v < 4294967296) (hf : b.length + 4 ≤ n) : cal P f_pack_Packer_Int [.pointer (some ⟨g, 0, none⟩), .int .u32 v] w (PkQ w0 As g n (b ++ be 4 v)) := by
  refine s_pack_Packer_Int fun R hR => ?_
  unfold c_pack_Packer_Int
  simp (disch := omega) only [fx, Nat.reduceAdd, forall_const, wu64i]
  refine putnumS (m := 4) hs hn (c := []) (fun z _ => rdNil z) (by omega) (by omega) (by simpa using hf) fun s' w' h => ?_
  rw [List.append_nil] at h
  exact hR _ _ ⟨rfl, s', h⟩
theorem LongS (hv : v < 18446744073709551616) (hf : b.length + 8 ≤ n) : cal P f_pack_Packer_Long [.pointer (some ⟨g, 0, none⟩), .int .u64 v] w (PkQ w0 As g n (b ++ be 8 v)) := by
  refine s_pack_Packer_Long fun R hR => ?_
  unfold c_pack_Packer_Long
  refine putnumS (m := 8) hs hn (c := []) (fun z _ => rdNil z) (by omega) hv (by simpa using hf) fun s' w' h => ?_
  rw [List.append_nil] at h
  exact hR _ _ ⟨rfl, s', h⟩
theorem FixedS (hrc : ∀ z, Sep w0 z As → RdB z.heap hc c) (hf : b.length + c.length ≤ n) : cal P f_pack_Packer_Fixed [.pointer (some ⟨g, 0, none⟩), hc] w (PkQ w0 As g n (b ++ c)) := by
  refine s_pack_Packer_Fixed fun R hR => ?_
  unfold c_pack_Packer_Fixed
  refine cal_i (putS (a := []) hs (fun z _ => rdNil z) hrc hn (by simpa using hf)) ?_
  rintro _ w' ⟨rfl, s', h⟩
  rw [List.append_nil] at h
  exact hR _ _ ⟨rfl, s', h⟩
theorem BytesS (hrc : ∀ z, Sep w0 z As → RdB z.heap hc c) (hf : b.length + 4 + c.length ≤ n) : cal P f_pack_Packer_Bytes [.pointer (some ⟨g, 0, none⟩), hc] w (PkQ w0 As g n (b ++ (be 4 c.length ++ c))) := by
  refine s_pack_Packer_Bytes fun R hR => ?_
  unfold c_pack_Packer_Bytes
  simp (disch := omega) only [fx, Nat.reduceAdd, forall_const, (hrc _ hs.tail.tail).len, wu64i]
  exact putnumS (m := 4) hs hn hrc (by omega) (by omega) (by omega) fun s' w' h => hR _ _ ⟨rfl, s', h⟩
omit hn in
theorem OutS (hb : b.length ≤ 8192) : cal P f_pack_Packer_Out [.pointer (some ⟨g, 0, none⟩)] w fun v w' => ∃ r, v = .tuple #[r, .int .i64 0] ∧ Sep w0 w' (ownB r b :: pk g s n :: ownB s b :: As) := by
  refine s_pack_Packer_Out fun R hR => ?_
  unfold c_pack_Packer_Out
  have herr : cal P f_pack_Packer_Err [.pointer (some ⟨g, 0, none⟩)] w fun v w' => v = .int .i64 0 ∧ w = w' := by
    refine s_pack_Packer_Err fun R hR => ?_
    unfold c_pack_Packer_Err
    simp only [fx, Nat.reduceAdd, forall_const, L_pack_Packer hs.blk, L_pack_Packer__kept hs.blk, L_pack_Packer__kept_made hs.blk, L_pack_Packer__kept_b hs.blk, L_pack_Packer__kept_err hs.blk, L_pack_Packer__limit hs.blk]
    exact hR _ _ ⟨rfl, rfl⟩
  refine cal_i herr ?_
  rintro _ _ ⟨rfl, rfl⟩
  simp only [fx, Nat.reduceAdd, forall_const, L_pack_Packer hs.blk, L_pack_Packer__kept hs.blk, L_pack_Packer__kept_made hs.blk, L_pack_Packer__kept_b hs.blk, L_pack_Packer__kept_err hs.blk, L_pack_Packer__limit hs.blk, (Sep.rd hs.p1).len, show ((0 : Int) != 0) = false from rfl]
  refine mkB_s hs ST_bytes ZC_uint8 (by omega) fun g1 w1 hs1 => ?_
  simp only [fx, Nat.reduceAdd, forall_const, L_pack_Packer (Sep.p1 hs1).blk, L_pack_Packer__kept (Sep.p1 hs1).blk, L_pack_Packer__kept_made (Sep.p1 hs1).blk, L_pack_Packer__kept_b (Sep.p1 hs1).blk, L_pack_Packer__kept_err (Sep.p1 hs1).blk, L_pack_Packer__limit (Sep.p1 hs1).blk]
  refine cpyB_s ST_bytes hs1 (Sep.rd hs1.p2) fun w2 hs2 => ?_
  have e1 : b.take (List.replicate b.length (0 : UInt8)).length ++ (List.replicate b.length (0 : UInt8)).drop b.length = b := by simp
  rw [e1] at hs2
  exact hR _ _ ⟨_, rfl, hs2⟩
end
end
end Go.Fx
set_option linter.unusedVariables false
set_option linter.unusedSimpArgs false
namespace Go.Fx
/-- 's[j:]', s owned. -/
theorem own_from {h : Heap} {s : Value} {l : List UInt8} {F : List Nat} {k : IntKind} {j : Nat} {K : Value → Prop} (ho : OwnB h s l F) (hj : j ≤ l.length) (hk : ∀ s', OwnB h s' (l.drop j) F → s'.oneCell' = true → K s') :
    slc 1 s (some (.int k (j : Int))) none K := by
  obtain ⟨hl, ⟨rfl, h0, rfl⟩ | ⟨g, o, cap, cur, E, rfl, hn, hg, hfit, hcs, rfl⟩⟩ := ho
  · have hl0 : l = [] := List.eq_nil_of_length_eq_zero h0
    subst hl0
    have : j = 0 := by simpa using hj
    subst this
    refine ⟨none, 0, 0, rfl, ?_⟩
    refine ⟨k, 0, rfl, by omega, by omega, ?_⟩
    simp only [Int.toNat_zero]
    exact hk _ (OwnB.nil _) rfl
  · refine ⟨some ⟨g, o, none⟩, l.length, cap, rfl, ?_⟩
    refine ⟨k, (j : Int), rfl, by omega, by omega, ?_⟩
    simp only [Int.toNat_natCast]
    refine hk _ ?_ (by split <;> rfl)
    have hlen : (bvs (l.drop j)).length = (l.drop j).length := bvs_length _
    have hd : bvs (l.drop j) = (bvs l).drop j := by simp [bvs]
    refine ⟨by simp [bvs], .inr ?_⟩
    have hsz := congrArg List.length hcs
    simp only [List.length_take, List.length_drop, Array.length_toList, bvs_length] at hsz
    by_cases hc : cap = j
    · have hjl : j = l.length := by omega
      refine ⟨g, o, cap - j, cur, E, ?_, by simp; omega, hg, by omega, ?_, rfl⟩
      · rw [if_pos hc, List.length_drop]
      · rw [hd, hjl, List.drop_of_length_le (by simp [bvs])]
        simp [bvs_length]
    · refine ⟨g, o + j, cap - j, cur, E, ?_, by simp; omega, hg, by omega, ?_, rfl⟩
      · rw [if_neg hc, List.length_drop, Option.map_some, Nat.mul_one]
        unfold Addr.add
        split
        · simp_all
        · rfl
      · rw [hd, ← hcs, Nat.mul_one, Nat.mul_one, List.length_drop, List.drop_take, List.drop_drop]
theorem or_byte {a c : Nat} (ha : a < 72057594037927936) (hc : c < 256) : IntKind.u64.wrap (((BitVec.ofInt IntKind.u64.bits (IntKind.u64.wrap ((a : Int) * 2 ^ (min (8 : Int).toNat IntKind.u64.bits)))) ||| BitVec.ofInt IntKind.u64.bits (IntKind.u64.wrap (c : Int))).toNat : Int) = ((256 * a + c : Nat) : Int) := by
  have h1 : IntKind.u64.wrap ((a : Int) * 2 ^ (min (8 : Int).toNat IntKind.u64.bits)) = ((2 ^ 8 * a : Nat) : Int) := by
    rw [show min (8 : Int).toNat IntKind.u64.bits = 8 from rfl, wu64i (by omega) (by omega)]
    omega
  rw [h1, show IntKind.u64.wrap (c : Int) = c from wu64i (by omega) (by omega)]
  have h2 : ((BitVec.ofInt IntKind.u64.bits ((2 ^ 8 * a : Nat) : Int)) ||| BitVec.ofInt IntKind.u64.bits (c : Int)).toNat = 2 ^ 8 * a ||| c := by
    rw [BitVec.toNat_or]
    congr 1
    · simp [IntKind.bits]; omega
    · simp [IntKind.bits]; omega
  rw [h2, ← Nat.two_pow_add_eq_or_of_lt (by omega), wu64i (by omega) (by omega)]
theorem ofBe_take_succ {l : List UInt8} {i : Nat} (hi : i < l.length) : ofBe (l.take (i + 1)) = 256 * ofBe (l.take i) + l[i].toNat := by
  rw [List.take_add_one, List.getElem?_eq_getElem hi, Option.toList_some, ofBe_snoc]
theorem ofBe_take_lt {l : List UInt8} {i : Nat} (hl : l.length ≤ 8) (hi : i < l.length) : ofBe (l.take i) < 72057594037927936 := by
  refine Nat.lt_of_lt_of_le (ofBe_lt _) ?_
  rw [List.length_take, Nat.min_eq_left (by omega)]
  exact Nat.pow_le_pow_right (n := 256) (by decide) (show i ≤ 7 by omega)
theorem value_spec {w : World} {v : Value} {l : List UInt8} (hr : RdB w.heap v l) (hl : l.length ≤ 8) : cal P f_pack_value [v] w fun r w' => r = .int .u64 (ofBe l) ∧ w = w' := by
  refine s_pack_value fun R hR => ?_
  unfold c_pack_value
  simp only [fx, Nat.reduceAdd, forall_const, hr.len]
  refine ⟨fun x y w' => ∃ i : Nat, i ≤ l.length ∧ x = .int .u64 (ofBe (l.take i) : Nat) ∧ y = .int .i64 i ∧ w' = w, fun _ y _ => (l.length - RowKit.intOf y).toNat, ⟨0, by omega, by simp [ofBe], rfl, rfl⟩, ?_⟩
  rintro _ _ _ ⟨i, hi, rfl, rfl, rfl⟩ -
  simp only [fx, Nat.reduceAdd, forall_const]
  rw [cnd_bool]
  refine ⟨fun h => ?_, fun h => ?_⟩
  · have hlt : i < l.length := by simp at h; omega
    refine ldxB hr hlt ?_
    rw [sh_shl _ _ _ _ _ (by omega), bv, cvi_int, bi_or, or_byte (ofBe_take_lt hl hlt) (by have := l[i].toNat_lt; omega)]
    try simp only [fx, Nat.reduceAdd, forall_const]
    rw [wi64 (by omega) (by omega)]
    exact ⟨⟨i + 1, by omega, by rw [ofBe_take_succ hlt], by simp, trivial⟩, by simp [RowKit.intOf]; omega⟩
  · have hge : i = l.length := by simp at h; omega
    subst hge
    rw [List.take_length]
    exact hR _ _ ⟨rfl, rfl⟩
theorem rVal_spec {w : World} {v : Value} {l : List UInt8} (hr : RdB w.heap v l) (hl : l.length ≤ 8) : cal P f_ref01_Val [v] w fun r w' => r = .int .u64 (ofBe l) ∧ w = w' := by
  refine s_ref01_Val fun R hR => ?_
  unfold c_ref01_Val
  refine ⟨fun x y w' => ∃ i : Nat, i ≤ l.length ∧ x = .int .u64 (ofBe (l.take i) : Nat) ∧ y = .int .i64 i ∧ w' = w, fun _ y _ => (l.length - RowKit.intOf y).toNat, ⟨0, by omega, by simp [ofBe], rfl, rfl⟩, ?_⟩
  rintro _ _ _ ⟨i, hi, rfl, rfl, rfl⟩ -
  simp only [fx, Nat.reduceAdd, forall_const, hr.len]
  rw [cnd_bool]
  refine ⟨fun h => ?_, fun h => ?_⟩
  · have hlt : i < l.length := by simp at h; omega
    refine ldxB hr hlt ?_
    have hb := l[i].toNat_lt
    have hv := ofBe_take_lt hl hlt
    rw [bv, cvi_int]
    try simp only [fx, Nat.reduceAdd, forall_const]
    rw [wi64 (by omega) (by omega), show IntKind.u64.wrap (256 * ((ofBe (l.take i) : Nat) : Int)) = ((256 * ofBe (l.take i) : Nat) : Int) from by rw [wu64i (by omega) (by omega)]; omega, show IntKind.u64.wrap (l[i].toNat : Int) = l[i].toNat from wu64i (by omega) (by omega), wu64i (by omega) (by omega)]
    exact ⟨⟨i + 1, by omega, by rw [ofBe_take_succ hlt]; rfl, by simp, trivial⟩, by simp [RowKit.intOf]; omega⟩
  · have hge : i = l.length := by simp at h; omega
    subst hge
    rw [List.take_length]
    exact hR _ _ ⟨rfl, rfl⟩
section
variable {w0 w : World} {As : List Asn} {g n v : Nat} {s : Value} {a b c l : List UInt8} {e : Int}
/-- 's[j:]'. -/
theorem fromB_s {k : IntKind} {j : Nat} {K : Value → Prop} (hs : Sep w0 w (ownB s l :: As)) (hj : j ≤ l.length) (h : ∀ s', Sep w0 w (ownB s' (l.drop j) :: As) → K s') : slc 1 s (some (.int k (j : Int))) none K := by
  obtain ⟨F, ho, hu⟩ := hs.upd
  exact own_from ho hj fun s' ho' _ => h s' (hu w F (ownB _ _) ho' (Fr.refl _ _) (Grew.refl _ _))
theorem rNumS (hn : n ≤ 8) (hv : v < 18446744073709551616) : cal P f_ref01_Num [.int .i64 n, .int .u64 v] w fun r w' => Sep w w' [ownB r (be n v)] := by
  refine s_ref01_Num fun R hR => ?_
  unfold c_ref01_Num
  refine mkB_s (Sep.start w) ST_bytes ZC_uint8 (by omega) fun g w1 hs => ?_
  simp (disch := omega) only [fx, Nat.reduceAdd, forall_const, wi64]
  refine ⟨fun a b w2 => ∃ i : Nat, i ≤ n ∧ a = .int .u64 ((v / 256 ^ i : Nat) : Int) ∧ b = .int .i64 ((n : Int) - 1 - i) ∧ Sep w w2 [ownB (.slice (some ⟨g, 0, none⟩) n n) (List.replicate (n - i) 0 ++ be i v)],
    fun _ b _ => (RowKit.intOf b + 1).toNat, ⟨0, by omega, by simp, by simp, by simpa [be] using hs⟩, ?_⟩
  rintro _ _ w2 ⟨i, hi, rfl, rfl, hs2⟩ -
  simp only [fx, Nat.reduceAdd, forall_const]
  rw [cnd_bool]
  refine ⟨fun h => ?_, fun h => ?_⟩
  · have hlt : i < n := by simp at h; omega
    have hvi : v / 256 ^ i < 18446744073709551616 := Nat.lt_of_le_of_lt (Nat.div_le_self _ _) hv
    have e0 : (n : Int) - 1 - i = ((n - 1 - i : Nat) : Int) := by omega
    have e1 : ((v / 256 ^ i : Nat) : Int).tmod 256 = ((v / 256 ^ i % 256 : Nat) : Int) := tmodn _ 256
    have e2 : ((v / 256 ^ i : Nat) : Int).tdiv 256 = ((v / 256 ^ (i + 1) : Nat) : Int) := by
      rw [Nat.pow_succ, ← Nat.div_div_eq_div_mul]; exact tdivn _ 256
    rw [bi_rem _ _ _ _ (by omega), e1]
    simp only [cvi_int]
    rw [bv_of _ (by omega), Int.toNat_natCast, e0]
    have e4 : UInt8.ofNat (v / 256 ^ i % 256) = UInt8.ofNat (v / 256 ^ i) := by
      apply UInt8.toNat_inj.1
      simp
    rw [e4]
    refine stxB_s hs2 (by simp [be_length]; omega) _ fun w3 hs3 => ?_
    rw [bi_quo _ _ _ _ (by omega), e2]
    have hvi2 : v / 256 ^ (i + 1) < 18446744073709551616 := Nat.lt_of_le_of_lt (Nat.div_le_self _ _) hv
    rw [wu64i (Int.natCast_nonneg _) (by omega), wi64 (by omega) (by omega)]
    refine ⟨⟨i + 1, by omega, rfl, by simp; omega, ?_⟩, by simp [RowKit.intOf]⟩
    have e3 : (List.replicate (n - i) (0 : UInt8) ++ be i v).set (n - 1 - i) (UInt8.ofNat (v / 256 ^ i)) = List.replicate (n - (i + 1)) 0 ++ be (i + 1) v := by
      rw [show n - i = (n - (i + 1)) + 1 by omega, List.replicate_succ', List.append_assoc, List.set_append_right _ _ (by simp; omega), be_cons]
      congr 1
      rw [show n - 1 - i - (List.replicate (n - (i + 1)) (0 : UInt8)).length = 0 by simp; omega]
      rfl
    rw [← e3]
    exact hs3
  · have hlt : ¬ i < n := by simp at h; omega
    obtain rfl : i = n := by omega
    exact hR _ _ (by simpa using hs2)
abbrev uk (g : Nat) (s : Value) (e : Int) : Asn := blk g (Rdr.cells Q_pack_Unpacker (true, s, e)).toArray T_pack_Unpacker
theorem ReadS (hb : RdB w.heap s l) (hl : l.length ≤ 281474976710656) : cal P f_pack_Read [s] w fun v w' => ∃ g s', v = .pointer (some ⟨g, 0, none⟩) ∧ Sep w w' [uk g s' 0, ownB s' l] := by
  refine s_pack_Read fun R hR => ?_
  unfold c_pack_Read
  have hbd : ∀ K, rdP P (Instr.build T_pack_Unpacker #[]) w K = K (.agg (Rdr.cells Q_pack_Unpacker (false, .slice none 0 0, 0)).toArray) := fun K => rdP_eq (by kernel_rfl) K
  rw [hbd]
  refine bx_s (Sep.start w) fun g w1 hs => ?_
  simp only [fx, Nat.reduceAdd, forall_const]
  refine St_pack_Unpacker__kept_made hs fun w2 hs2 => ?_
  rw [hb.len]
  refine mkB_s hs2 ST_bytes ZC_uint8 hl fun g1 w3 hs3 => ?_
  refine St_pack_Unpacker__kept_b hs3.p1 rfl fun w4 hs4 => ?_
  simp only [fx, Nat.reduceAdd, forall_const, L_pack_Unpacker hs4.blk, L_pack_Unpacker__kept hs4.blk, L_pack_Unpacker__kept_made hs4.blk, L_pack_Unpacker__kept_b hs4.blk, L_pack_Unpacker__kept_err hs4.blk]
  refine cpyB_s ST_bytes hs4.p1 (hs4.rdB hb) fun w5 hs5 => ?_
  have e1 : l.take (List.replicate l.length (0 : UInt8)).length ++ (List.replicate l.length (0 : UInt8)).drop l.length = l := by simp
  rw [e1] at hs5
  exact hR _ _ ⟨g, _, rfl, hs5.p1⟩
theorem uworksS (hs : Sep w0 w (uk g s e :: As)) : cal P f_pack_Unpacker_works [.pointer (some ⟨g, 0, none⟩)] w fun r w' => r = .bool (e == 0) ∧ w = w' := by
  refine s_pack_Unpacker_works fun R hR => ?_
  unfold c_pack_Unpacker_works
  simp only [fx, Nat.reduceAdd, forall_const, L_pack_Unpacker hs.blk, L_pack_Unpacker__kept hs.blk, L_pack_Unpacker__kept_made hs.blk, L_pack_Unpacker__kept_b hs.blk, L_pack_Unpacker__kept_err hs.blk]
  exact hR _ _ ⟨rfl, rfl⟩
theorem ufailsS {e' : Int} (hs : Sep w0 w (uk g s 0 :: As)) : cal P f_pack_kept_fails [.pointer (some ⟨g, 0, none⟩), .int .i64 e'] w fun r w' => Sep w0 w' (uk g s e' :: As) := by
  refine s_pack_kept_fails fun R hR => ?_
  unfold c_pack_kept_fails
  simp only [fx, Nat.reduceAdd, forall_const, L_pack_Unpacker hs.blk, L_pack_Unpacker__kept hs.blk, L_pack_Unpacker__kept_made hs.blk, L_pack_Unpacker__kept_b hs.blk, L_pack_Unpacker__kept_err hs.blk, show ((0 : Int) == 0) = true from rfl]
  exact St_pack_Unpacker__kept_err hs fun w' hs' => hR _ _ hs'
/-- What is taken, what is left, the error. -/
def tk (n : Nat) (b : List UInt8) (e : Int) : List UInt8 × List UInt8 × Int := if e = 0 then (if b.length < n then ([], b, 11) else (b.take n, b.drop n, 0)) else ([], b, e)
theorem takeS (hs : Sep w0 w (uk g s e :: ownB s b :: As)) (hn : n ≤ 100000000) : cal P f_pack_Unpacker_take [.pointer (some ⟨g, 0, none⟩), .int .i64 n] w fun v w' => ∃ s', Sep w0 w' (ownB v (tk n b e).1 :: uk g s' (tk n b e).2.2 :: ownB s' (tk n b e).2.1 :: As) := by
  refine s_pack_Unpacker_take fun R hR => ?_
  unfold c_pack_Unpacker_take
  refine cal_i (uworksS hs) ?_
  rintro _ _ ⟨rfl, rfl⟩
  unfold tk at hR
  by_cases he : e = 0
  · subst he
    rw [if_pos rfl] at hR
    simp only [fx, Nat.reduceAdd, forall_const, show ((0 : Int) == 0) = true from rfl]
    rw [decide_eq_false (by omega)]
    simp only [fx, Nat.reduceAdd, forall_const, L_pack_Unpacker hs.blk, L_pack_Unpacker__kept hs.blk, L_pack_Unpacker__kept_made hs.blk, L_pack_Unpacker__kept_b hs.blk, L_pack_Unpacker__kept_err hs.blk, (Sep.rd hs.p1).len]
    rw [cnd_bool]
    refine ⟨fun h => ?_, fun h => ?_⟩
    · have h : b.length < n := by simp at h; omega
      rw [if_pos h] at hR
      refine cal_i (ufailsS hs) ?_
      intro _ w' hs'
      exact hR _ _ ⟨s, hs'.nil⟩
    · have h : ¬ b.length < n := by simp at h; omega
      rw [if_neg h] at hR
      refine mkB_s hs ST_bytes ZC_uint8 (by omega) fun g1 w1 hs1 => ?_
      simp only [fx, Nat.reduceAdd, forall_const, L_pack_Unpacker (Sep.p1 hs1).blk, L_pack_Unpacker__kept (Sep.p1 hs1).blk, L_pack_Unpacker__kept_made (Sep.p1 hs1).blk, L_pack_Unpacker__kept_b (Sep.p1 hs1).blk, L_pack_Unpacker__kept_err (Sep.p1 hs1).blk]
      refine cpyB_s ST_bytes hs1 (Sep.rd hs1.p2) fun w2 hs2 => ?_
      have e1 : b.take (List.replicate n (0 : UInt8)).length ++ (List.replicate n (0 : UInt8)).drop b.length = b.take n := by
        rw [List.length_replicate, List.drop_of_length_le (by simp; omega), List.append_nil]
      rw [e1] at hs2
      simp only [fx, Nat.reduceAdd, forall_const, L_pack_Unpacker (Sep.p1 hs2).blk, L_pack_Unpacker__kept (Sep.p1 hs2).blk, L_pack_Unpacker__kept_made (Sep.p1 hs2).blk, L_pack_Unpacker__kept_b (Sep.p1 hs2).blk, L_pack_Unpacker__kept_err (Sep.p1 hs2).blk]
      refine fromB_s hs2.p2 (by omega) fun s' hs3 => ?_
      refine St_pack_Unpacker__kept_b hs3.p2 (Sep.one hs3) fun w3 hs4 => ?_
      exact hR _ _ ⟨s', hs4.p2⟩
  · rw [if_neg he] at hR
    have : (e == 0) = false := by simpa using he
    rw [this]
    simp only [fx, Nat.reduceAdd, forall_const]
    exact hR _ _ ⟨s, hs.nil⟩
theorem uErrS (hs : Sep w0 w (uk g s e :: As)) : cal P f_pack_Unpacker_Err [.pointer (some ⟨g, 0, none⟩)] w fun v w' => v = .int .i64 e ∧ w = w' := by
  refine s_pack_Unpacker_Err fun R hR => ?_
  unfold c_pack_Unpacker_Err
  simp only [fx, Nat.reduceAdd, forall_const, L_pack_Unpacker hs.blk, L_pack_Unpacker__kept hs.blk, L_pack_Unpacker__kept_made hs.blk, L_pack_Unpacker__kept_b hs.blk, L_pack_Unpacker__kept_err hs.blk]
  exact hR _ _ ⟨rfl, rfl⟩
def uend (b : List UInt8) (e : Int) : Int := if e ≠ 0 ∨ b.length = 0 then e else 12
theorem EndS (hs : Sep w0 w (uk g s e :: ownB s b :: As)) : cal P f_pack_Unpacker_End [.pointer (some ⟨g, 0, none⟩)] w fun v w' => v = .int .i64 (uend b e) ∧ w = w' := by
  refine s_pack_Unpacker_End fun R hR => ?_
  unfold c_pack_Unpacker_End
  refine cal_i (uErrS hs) ?_
  rintro _ _ ⟨rfl, rfl⟩
  simp only [fx, Nat.reduceAdd, forall_const, L_pack_Unpacker hs.blk, L_pack_Unpacker__kept hs.blk, L_pack_Unpacker__kept_made hs.blk, L_pack_Unpacker__kept_b hs.blk, L_pack_Unpacker__kept_err hs.blk, (Sep.rd hs.p1).len]
  unfold uend at hR
  rw [cnd_bool]
  refine ⟨fun h => ?_, fun h => ?_⟩
  · rw [if_pos (by simpa using h)] at hR
    exact hR _ _ ⟨rfl, rfl⟩
  · rw [if_neg (by simp at h; simpa using h)] at hR
    exact hR _ _ ⟨rfl, rfl⟩
section
variable (hs : Sep w0 w (uk g s e :: ownB s b :: As))
include hs
theorem tnumS {m : Nat} {K : Value → World → Prop} (hm : m ≤ 8) (h : ∀ s' w', Sep w0 w' (uk g s' (tk m b e).2.2 :: ownB s' (tk m b e).2.1 :: As) → K (.int .u64 (ofBe (tk m b e).1)) w') :
    cal P f_pack_Unpacker_take [.pointer (some ⟨g, 0, none⟩), .int .i64 m] w fun t w => cal P f_pack_value [t] w fun u w => K u w := by
  refine cal_i (takeS hs (by omega)) ?_
  rintro t w1 ⟨s', hs1⟩
  have hl : (tk m b e).1.length ≤ 8 := by unfold tk; split <;> (try split) <;> simp; omega
  refine cal_i (value_spec (Sep.rd hs1) hl) ?_
  rintro _ _ ⟨rfl, rfl⟩
  exact h s' _ hs1.tail
theorem uShortS : cal P f_pack_Unpacker_Short [.pointer (some ⟨g, 0, none⟩)] w fun v w' => v = .int .u16 (ofBe (tk 2 b e).1) ∧ ∃ s', Sep w0 w' (uk g s' (tk 2 b e).2.2 :: ownB s' (tk 2 b e).2.1 :: As) := by
  refine s_pack_Unpacker_Short fun R hR => ?_
  unfold c_pack_Unpacker_Short
  refine tnumS hs (m := 2) (by omega) fun s' w' hs' => ?_
  have hl : (tk 2 b e).1.length ≤ 2 := by unfold tk; split <;> (try split) <;> simp; omega
  have hb := ofBe_lt (tk 2 b e).1
  have hp : 256 ^ (tk 2 b e).1.length ≤ 256 ^ 2 := Nat.pow_le_pow_right (by omega) hl
  rw [cvi_int, wu16i (by omega) (by omega)]
  exact hR _ _ ⟨rfl, s', hs'⟩
theorem uIntS : cal P f_pack_Unpacker_Int [.pointer (some ⟨g, 0, none⟩)] w fun v w' => v = .int .u32 (ofBe (tk 4 b e).1) ∧ ∃ s', Sep w0 w' (uk g s' (tk 4 b e).2.2 :: ownB s' (tk 4 b e).2.1 :: As) := by
  refine s_pack_Unpacker_Int fun R hR => ?_
  unfold c_pack_Unpacker_Int
  refine tnumS hs (m := 4) (by omega) fun s' w' hs' => ?_
  have hl : (tk 4 b e).1.length ≤ 4 := by unfold tk; split <;> (try split) <;> simp; omega
  have hb := ofBe_lt (tk 4 b e).1
  have hp : 256 ^ (tk 4 b e).1.length ≤ 256 ^ 4 := Nat.pow_le_pow_right (by omega) hl
  rw [cvi_int, wu32i (by omega) (by omega)]
  exact hR _ _ ⟨rfl, s', hs'⟩
theorem uLongS : cal P f_pack_Unpacker_Long [.pointer (some ⟨g, 0, none⟩)] w fun v w' => v = .int .u64 (ofBe (tk 8 b e).1) ∧ ∃ s', Sep w0 w' (uk g s' (tk 8 b e).2.2 :: ownB s' (tk 8 b e).2.1 :: As) := by
  refine s_pack_Unpacker_Long fun R hR => ?_
  unfold c_pack_Unpacker_Long
  exact tnumS hs (m := 8) (by omega) fun s' w' hs' => hR _ _ ⟨rfl, s', hs'⟩
theorem uFixedS (hn : n ≤ 100000000) : cal P f_pack_Unpacker_Fixed [.pointer (some ⟨g, 0, none⟩), .int .i64 n] w fun v w' => ∃ s', Sep w0 w' (ownB v (tk n b e).1 :: uk g s' (tk n b e).2.2 :: ownB s' (tk n b e).2.1 :: As) := by
  refine s_pack_Unpacker_Fixed fun R hR => ?_
  unfold c_pack_Unpacker_Fixed
  exact cal_i (takeS hs hn) fun v w' h => hR _ _ h
/-- Bytes ahead of which stands how many they are. -/
def ct (most : Nat) (b : List UInt8) (e : Int) : List UInt8 × List UInt8 × Int :=
  if e = 0 then (if b.length < 4 then ([], b, 11) else if most < ofBe (b.take 4) then ([], b, 3) else if b.length - 4 < ofBe (b.take 4) then ([], b, 11) else tk (ofBe (b.take 4)) (b.drop 4) 0) else ([], b, e)
theorem uBytesS (hn : n ≤ 100000000) (hlb : b.length ≤ 281474976710656) : cal P f_pack_Unpacker_Bytes [.pointer (some ⟨g, 0, none⟩), .int .i64 n] w fun v w' => ∃ s', Sep w0 w' (ownB v (ct n b e).1 :: uk g s' (ct n b e).2.2 :: ownB s' (ct n b e).2.1 :: As) := by
  refine s_pack_Unpacker_Bytes fun R hR => ?_
  unfold c_pack_Unpacker_Bytes
  refine cal_i (s_pack_Unpacker_counted fun R hR => ?_) fun v w' h => hR v w' h
  unfold c_pack_Unpacker_counted
  refine cal_i (uworksS hs) ?_
  rintro _ _ ⟨rfl, rfl⟩
  unfold ct at hR
  by_cases he : e = 0
  · subst he
    rw [if_pos rfl] at hR
    simp only [fx, Nat.reduceAdd, forall_const, show ((0 : Int) == 0) = true from rfl]
    rw [decide_eq_false (by omega)]
    simp only [fx, Nat.reduceAdd, forall_const, L_pack_Unpacker hs.blk, L_pack_Unpacker__kept hs.blk, L_pack_Unpacker__kept_made hs.blk, L_pack_Unpacker__kept_b hs.blk, L_pack_Unpacker__kept_err hs.blk, (Sep.rd hs.p1).len]
    rw [cnd_bool]
    refine ⟨fun h => ?_, fun h => ?_⟩
    · have h : b.length < 4 := by simp at h; omega
      rw [if_pos h] at hR
      refine cal_i (ufailsS hs) ?_
      intro _ w' hs'
      exact hR _ _ ⟨s, hs'.nil⟩
    · have h : ¬ b.length < 4 := by simp at h; omega
      rw [if_neg h] at hR
      obtain ⟨a, c, rfl, hc⟩ := Sep.form hs.p1
      rw [show (Value.int .i64 4) = .int .i64 ((4 : Nat) : Int) from rfl, slc_to (by omega)]
      have h4 : (b.take 4).length = 4 := by simp; omega
      refine cal_i (value_spec ((Sep.rd hs.p1).take (by omega) c) (by omega)) ?_
      rintro _ _ ⟨rfl, rfl⟩
      have hv := ofBe_lt (b.take 4)
      rw [h4] at hv
      generalize ofBe (b.take 4) = m at *
      simp (disch := omega) only [fx, Nat.reduceAdd, forall_const, wu64i]
      rw [cnd_bool]
      refine ⟨fun h => ?_, fun h => ?_⟩
      · have h : n < m := by simp at h; omega
        rw [if_pos h] at hR
        refine cal_i (ufailsS hs) ?_
        intro _ w' hs'
        exact hR _ _ ⟨_, hs'.nil⟩
      · have h : ¬ n < m := by simp at h; omega
        rw [if_neg h] at hR
        simp only [fx, Nat.reduceAdd, forall_const, L_pack_Unpacker hs.blk, L_pack_Unpacker__kept hs.blk, L_pack_Unpacker__kept_made hs.blk, L_pack_Unpacker__kept_b hs.blk, L_pack_Unpacker__kept_err hs.blk, (Sep.rd hs.p1).len]
        rw [wi64 (by omega) (by omega), wu64i (by omega) (by omega), cnd_bool]
        refine ⟨fun h => ?_, fun h => ?_⟩
        · have h : b.length - 4 < m := by simp at h; omega
          rw [if_pos h] at hR
          refine cal_i (ufailsS hs) ?_
          intro _ w' hs'
          exact hR _ _ ⟨_, hs'.nil⟩
        · have h : ¬ b.length - 4 < m := by simp at h; omega
          rw [if_neg h] at hR
          refine fromB_s hs.p1 (by omega) fun s' hs1 => ?_
          refine St_pack_Unpacker__kept_b hs1.p1 (Sep.one hs1) fun w1 hs2 => ?_
          rw [wi64 (by omega) (by omega)]
          exact cal_i (takeS hs2 (by omega)) fun v w' h => hR _ _ h
  · rw [if_neg he] at hR
    have : (e == 0) = false := by simpa using he
    rw [this]
    simp only [fx, Nat.reduceAdd, forall_const]
    exact hR _ _ ⟨s, hs.nil⟩
end
end
/-! ### What is taken, one behind the other -/
theorem tk_ok {n : Nat} {b : List UInt8} {e : Int} (h : (tk n b e).2.2 = 0) : e = 0 ∧ n ≤ b.length ∧ tk n b e = (b.take n, b.drop n, 0) := by
  unfold tk at h ⊢
  by_cases he : e = 0
  · rw [if_pos he] at h ⊢
    by_cases hn : b.length < n
    · rw [if_pos hn] at h; simp at h
    · rw [if_neg hn]; exact ⟨he, by omega, rfl⟩
  · rw [if_neg he] at h
    exact absurd h he
theorem uend_ok {b : List UInt8} {e : Int} (h : uend b e = 0) : e = 0 ∧ b = [] := by
  unfold uend at h
  split at h
  · rename_i hh
    subst h
    exact ⟨rfl, List.eq_nil_of_length_eq_zero (by omega)⟩
  · cases h
theorem tk_app {n : Nat} {a r : List UInt8} (h : a.length = n) : tk n (a ++ r) 0 = (a, r, 0) := by
  unfold tk
  rw [if_pos rfl, if_neg (by simp; omega), List.take_left' h, List.drop_left' h]
theorem ct_ok {m : Nat} {b : List UInt8} {e : Int} (h : (ct m b e).2.2 = 0) : e = 0 ∧ 4 ≤ b.length ∧ ofBe (b.take 4) ≤ m ∧ ofBe (b.take 4) ≤ b.length - 4 ∧ ct m b e = ((b.drop 4).take (ofBe (b.take 4)), (b.drop 4).drop (ofBe (b.take 4)), 0) := by
  unfold ct at h ⊢
  by_cases he : e = 0
  · rw [if_pos he] at h ⊢
    by_cases h1 : b.length < 4
    · rw [if_pos h1] at h; simp at h
    · rw [if_neg h1] at h ⊢
      by_cases h2 : m < ofBe (b.take 4)
      · rw [if_pos h2] at h; simp at h
      · rw [if_neg h2] at h ⊢
        by_cases h3 : b.length - 4 < ofBe (b.take 4)
        · rw [if_pos h3] at h; simp at h
        · rw [if_neg h3] at h ⊢
          exact ⟨he, by omega, by omega, by omega, (tk_ok h).2.2⟩
  · rw [if_neg he] at h
    exact absurd h he
theorem ct_app {m : Nat} {a d : List UInt8} (h : a.length = 4) (h2 : ofBe a = d.length) (hm : d.length ≤ m) : ct m (a ++ d) 0 = (d, [], 0) := by
  unfold ct
  rw [if_pos rfl, List.take_left' h, List.drop_left' h, if_neg (by simp; omega), if_neg (by omega), if_neg (by simp; omega), h2]
  unfold tk
  rw [if_pos rfl, if_neg (by omega), List.take_of_length_le (by omega), List.drop_of_length_le (by omega)]
end Go.Fx
set_option linter.unusedVariables false
set_option linter.unusedSimpArgs false
namespace Go.Fx
theorem Sep.onL {w0 w : World} {As : List Asn} {A : Asn} (h : Sep w0 w As) (hm : A ∈ As) : ∃ F, A.on w.heap F := by
  obtain ⟨s, t, rfl⟩ := List.append_of_mem hm
  exact h.dropL.head
/-- One more behind the last one. -/
theorem Sep.put {w0 w : World} {α : Type} {f : α → Asn} {Xs T : List Asn} {L : List α} {s : α} (h : Sep w0 w (f s :: (Xs ++ (L.map f ++ T)))) : Sep w0 w (Xs ++ ((L ++ [s]).map f ++ T)) := by
  refine h.perm ?_
  rw [List.map_append, List.append_assoc, ← List.append_assoc, ← List.append_assoc]
  exact List.perm_middle.symm
theorem Sep.dropR {w0 w : World} {As Bs : List Asn} (h : Sep w0 w (As ++ Bs)) : Sep w0 w As := (h.perm List.perm_append_comm).dropL
/-- One out of the middle. -/
theorem Sep.mid {w0 w : World} {As Bs : List Asn} {A : Asn} (h : Sep w0 w (As ++ A :: Bs)) : Sep w0 w (A :: (As ++ Bs)) := h.perm List.perm_middle
theorem rdS_ld {S : World → Prop} {p v : Value} {K : Value → Prop} (hS : ∀ u, S u → ∀ K : Value → Prop, K v → ld1 p u.heap K) (hk : K v) : rdS S (fun w => ld1 p w.heap) K := ⟨v, fun u hu => hS u hu _ rfl, hk⟩
theorem At.byte {h : Heap} {g o i : Nat} {a : List UInt8} (ha : At h g o (bvs a)) (hi : i < a.length) (K : Value → Prop) : Go.Fx.ld1 (.pointer (some ⟨g, o + i, none⟩)) h K = K (bv a[i]) := by
  have h1 : bvs a = bvs (a.take i) ++ [bv a[i]] ++ bvs (a.drop (i + 1)) := by
    have e : a = a.take i ++ a[i] :: a.drop (i + 1) := by rw [← List.drop_eq_getElem_cons, List.take_append_drop]
    unfold bvs
    conv => lhs; rw [e]
    rw [List.map_append, List.map_cons]
    simp only [List.append_assoc, List.singleton_append]
  rw [h1] at ha
  exact (ha.part (k := i) (by simp [bvs]; omega)).ld1 K
/-- 'l[j][i]', l a slice of names. -/
theorem Rows'.byte {w : World} {v : Value} {l : List (Vec 32)} {j i : Nat} {a : Vec 32} (hr : Rows' (rVec 32) w.heap v l) (hj : l[j]? = some a) (hi : i < 32) {K : Value → Prop} (h : K (bv (a.1[i]'(by rw [a.2]; exact hi)))) :
    ixs 32 v (.int .i64 (j : Int)) fun t => ixa 32 1 t (.int .i64 (i : Int)) fun p => Go.Fx.ld1 p w.heap K := by
  obtain ⟨g, o, ha, hx⟩ := hr.ix (by decide) hj
  have hx' : ∀ K, ixs 32 v (.int .i64 (j : Int)) K = K (.pointer (some ⟨g, o, none⟩)) := hx .i64
  rw [hx', ixa_mk _ _ _ _ _ _ _ (by omega) (by omega), Int.toNat_natCast, Nat.mul_one, At.byte (a := a.1) ha (by rw [a.2]; exact hi)]
  exact h
theorem RdB.mid {h : Heap} {av : Option Addr} {cv i j : Nat} {l : List UInt8} (hr : RdB h (.slice av l.length cv) l) (hc : l.length ≤ cv) (hi : i ≤ j) (hj : j ≤ l.length) : RdB h (.slice (if cv = i then av else av.map (·.add (i * 1))) (j - i) (cv - i)) ((l.drop i).take (j - i)) :=
  (hr.drop (k := i) (by omega) hc (cv - i)).take (k := j - i) (by omega) (cv - i)
theorem parts_drop {α β : Type} {s : Nat} {g : α → List β} (hg : ∀ a, (g a).length = s) : ∀ (l : List α) (k : Nat), (l.flatMap g).drop (k * s) = (l.drop k).flatMap g
  | [], k => by simp
  | b :: l, 0 => by simp
  | b :: l, k + 1 => by
    rw [List.drop_succ_cons, List.flatMap_cons, ← parts_drop hg l k, Nat.succ_mul, Nat.add_comm, ← List.drop_drop, List.drop_left' (hg b)]
theorem Rows'.take {α : Type} {q : Rdr α} {h : Heap} {a : Option Addr} {n c k : Nat} {l : List α} (hr : Rows' q h (.slice a n c) l) (hk : k ≤ l.length) (c' : Nat) : Rows' q h (.slice a k c') (l.take k) := by
  have hn : n = l.length := by obtain ⟨_, _, hv, _⟩ := hr; cases hv; rfl
  subst hn
  have := Cel.take (k := k) hr hk c'
  unfold Rows'
  rw [parts_take q.len] at this
  rw [List.length_take, Nat.min_eq_left hk]
  exact this
theorem Rows'.drop {α : Type} {q : Rdr α} {h : Heap} {a : Option Addr} {n c k : Nat} {l : List α} (hr : Rows' q h (.slice a n c) l) (hk : k ≤ l.length) (hc : l.length ≤ c) (c' : Nat) : Rows' q h (.slice (if c = k then a else a.map (·.add (k * q.size))) (n - k) c') (l.drop k) := by
  have hn : n = l.length := by obtain ⟨_, _, hv, _⟩ := hr; cases hv; rfl
  subst hn
  have := Cel.drop (k := k) hr hk hc c'
  unfold Rows'
  rw [parts_drop q.len] at this
  rw [List.length_drop]
  exact this
end Go.Fx
set_option linter.unusedVariables false
set_option linter.unusedSimpArgs false
namespace Go.Fx
abbrev W32 := BitVec 32
def wv (x : W32) : Value := .int .u32 (x.toNat : Int)
def wvs (l : List W32) : List Value := l.map wv
theorem ofInt_w (x : W32) : BitVec.ofInt 32 (x.toNat : Int) = x := by
  apply BitVec.eq_of_toNat_eq
  rw [BitVec.toNat_ofInt]
  have := x.isLt
  omega
theorem wu32w (x : W32) : IntKind.u32.wrap (x.toNat : Int) = (x.toNat : Int) := by
  have := x.isLt
  rw [wu32i (by omega) (by omega)]
section
variable (x y : W32) (K : Value → Prop)
theorem wv_add : bi .add (wv x) (wv y) K = K (wv (x + y)) := by
  unfold wv
  rw [bi_add, wu32, BitVec.toNat_add]
  have e : (((x.toNat + y.toNat) % 2 ^ 32 : Nat) : Int) = ((x.toNat : Int) + y.toNat) % 4294967296 := by omega
  rw [e]
theorem wv_mul256 : bi .mul (wv x) (.int .u32 256) K = K (wv (x * 256)) := by
  unfold wv
  rw [bi_mul, wu32, BitVec.toNat_mul]
  have e : (((x.toNat * (256 : W32).toNat) % 2 ^ 32 : Nat) : Int) = ((x.toNat : Int) * 256) % 4294967296 := by
    rw [show (256 : W32).toNat = 256 from rfl]
    omega
  rw [e]
theorem wv_xor : bi .xor (wv x) (wv y) K = K (wv (x ^^^ y)) := by
  unfold wv
  rw [bi_xor]
  show K (.int .u32 (IntKind.u32.wrap ((BitVec.ofInt 32 (x.toNat : Int) ^^^ BitVec.ofInt 32 (y.toNat : Int)).toNat : Int))) = _
  rw [ofInt_w, ofInt_w, wu32w]
theorem wv_and : bi .and (wv x) (wv y) K = K (wv (x &&& y)) := by
  unfold wv
  rw [bi_and]
  show K (.int .u32 (IntKind.u32.wrap ((BitVec.ofInt 32 (x.toNat : Int) &&& BitVec.ofInt 32 (y.toNat : Int)).toNat : Int))) = _
  rw [ofInt_w, ofInt_w, wu32w]
theorem wv_or : bi .or (wv x) (wv y) K = K (wv (x ||| y)) := by
  unfold wv
  rw [bi_or]
  show K (.int .u32 (IntKind.u32.wrap ((BitVec.ofInt 32 (x.toNat : Int) ||| BitVec.ofInt 32 (y.toNat : Int)).toNat : Int))) = _
  rw [ofInt_w, ofInt_w, wu32w]
theorem wv_shr (k : IntKind) {n : Nat} (hn : n ≤ 32) : sh .shr (wv x) (.int k (n : Int)) K = K (wv (x >>> n)) := by
  unfold wv
  rw [sh_shr _ _ _ _ _ (by omega)]
  have h1 : min ((n : Int)).toNat IntKind.u32.bits = n := by show min n 32 = n; omega
  rw [h1, BitVec.toNat_ushiftRight, Nat.shiftRight_eq_div_pow]
  have h2 : ((2 : Int) ^ n) = ((2 ^ n : Nat) : Int) := by simp
  rw [h2, Int.ofNat_fdiv]
theorem wv_shl (k : IntKind) {n : Nat} (hn : n ≤ 32) : sh .shl (wv x) (.int k (n : Int)) K = K (wv (x <<< n)) := by
  unfold wv
  rw [sh_shl _ _ _ _ _ (by omega)]
  have h1 : min ((n : Int)).toNat IntKind.u32.bits = n := by show min n 32 = n; omega
  rw [h1, wu32, BitVec.toNat_shiftLeft, Nat.shiftLeft_eq, Int.natCast_emod, Int.natCast_mul, Int.natCast_pow]
  rfl
theorem wv_not {w : World} {P : Program} : rdP P (Op.unary .xor (wv x)) w K = K (wv (~~~x)) := by
  refine rdP_eq ?_ K
  have e : BitVec.ofInt 32 (x.toNat : Int) = x := ofInt_w x
  have h : (BitVec.ofInt 32 4294967295 ^^^ BitVec.ofInt 32 (x.toNat : Int)) = ~~~x := by
    rw [e, show BitVec.ofInt 32 4294967295 = BitVec.allOnes 32 from rfl, BitVec.allOnes_xor]
  have hr : (Op.unary .xor (wv x)).run P w = .ok (.int .u32 (IntKind.u32.wrap ((BitVec.ofInt 32 4294967295 ^^^ BitVec.ofInt 32 (x.toNat : Int)).toNat : Int))) w := rfl
  rw [hr, h, wu32w]
  rfl
theorem wv_b (b : UInt8) : cvi .u32 (bv b) K = K (wv (BitVec.ofNat 32 b.toNat)) := by
  unfold wv bv
  have := b.toNat_lt
  rw [cvi_int, wu32i (by omega) (by omega), BitVec.toNat_ofNat, Nat.mod_eq_of_lt (by omega)]
theorem w_b : cvi .u8 (wv x) K = K (bv (UInt8.ofNat x.toNat)) := by
  unfold wv
  rw [cvi_int, bv_of _ (by omega), Int.toNat_natCast]
end
end Go.Fx
set_option linter.unusedVariables false
set_option linter.unusedSimpArgs false
namespace Go.Fx
def rotr (x : W32) (n : Nat) : W32 := x <<< (32 - n) ||| x >>> n
def word4 (a b c d : UInt8) : W32 := BitVec.ofNat 32 (((a.toNat * 256 + b.toNat) * 256 + c.toNat) * 256 + d.toNat)
def wd (b : List UInt8) (t : Nat) : W32 := word4 (b.getD (4 * t) 0) (b.getD (4 * t + 1) 0) (b.getD (4 * t + 2) 0) (b.getD (4 * t + 3) 0)
def bw (b : UInt8) : W32 := BitVec.ofNat 32 b.toNat
theorem or_lt {a b n : Nat} (hb : b < 2 ^ n) : a * 2 ^ n ||| b = a * 2 ^ n + b := by
  rw [Nat.mul_comm, ← Nat.two_pow_add_eq_or_of_lt hb]
theorem bw_nat (b : UInt8) : (bw b).toNat = b.toNat := by
  have := b.toNat_lt
  unfold bw
  rw [BitVec.toNat_ofNat, Nat.mod_eq_of_lt (by omega)]
theorem word4_or (a b c d : UInt8) : bw a <<< 24 ||| bw b <<< 16 ||| bw c <<< 8 ||| bw d = word4 a b c d := by
  have ha := a.toNat_lt; have hb := b.toNat_lt; have hc := c.toNat_lt; have hd := d.toNat_lt
  apply BitVec.eq_of_toNat_eq
  unfold word4
  simp only [BitVec.toNat_or, BitVec.toNat_shiftLeft, bw_nat, Nat.shiftLeft_eq, BitVec.toNat_ofNat]
  rw [Nat.mod_eq_of_lt (show a.toNat * 2 ^ 24 < 2 ^ 32 by omega), Nat.mod_eq_of_lt (show b.toNat * 2 ^ 16 < 2 ^ 32 by omega), Nat.mod_eq_of_lt (show c.toNat * 2 ^ 8 < 2 ^ 32 by omega), Nat.mod_eq_of_lt (show ((a.toNat * 256 + b.toNat) * 256 + c.toNat) * 256 + d.toNat < 2 ^ 32 by omega)]
  rw [or_lt (show b.toNat * 2 ^ 16 < 2 ^ 24 by omega)]
  rw [show a.toNat * 2 ^ 24 + b.toNat * 2 ^ 16 = (a.toNat * 256 + b.toNat) * 2 ^ 16 by omega, or_lt (show c.toNat * 2 ^ 8 < 2 ^ 16 by omega)]
  rw [show (a.toNat * 256 + b.toNat) * 2 ^ 16 + c.toNat * 2 ^ 8 = ((a.toNat * 256 + b.toNat) * 256 + c.toNat) * 2 ^ 8 by omega, or_lt (show d.toNat < 2 ^ 8 by omega)]
theorem word4_sum (a b c d : UInt8) : (((0 * 256 + bw a) * 256 + bw b) * 256 + bw c) * 256 + bw d = word4 a b c d := by
  apply BitVec.eq_of_toNat_eq
  unfold word4
  simp only [BitVec.toNat_add, BitVec.toNat_mul, bw_nat, BitVec.toNat_ofNat]
  have h0 : (0 : W32).toNat = 0 := rfl
  have h1 : (256 : W32).toNat = 256 := rfl
  rw [h0, h1]
  omega
def sg0 (x : W32) : W32 := rotr x 7 ^^^ rotr x 18 ^^^ x >>> 3
def sg1 (y : W32) : W32 := rotr y 17 ^^^ rotr y 19 ^^^ y >>> 10
def nextW (b : List UInt8) (w : List W32) (t : Nat) : W32 := if t < 16 then wd b t else sg1 (w.getD (t - 2) 0) + w.getD (t - 7) 0 + sg0 (w.getD (t - 15) 0) + w.getD (t - 16) 0
def sch (b : List UInt8) : Nat → List W32
  | 0 => List.replicate 64 0
  | t + 1 => (sch b t).set t (nextW b (sch b t) t)
theorem sch_len (b : List UInt8) : ∀ t, (sch b t).length = 64
  | 0 => List.length_replicate
  | t + 1 => by rw [sch, List.length_set, sch_len b t]
theorem sch_zero (b : List UInt8) : ∀ t j, t ≤ j → (sch b t).getD j 0 = 0
  | 0, j, _ => by
    unfold sch
    rw [List.getD_eq_getElem?_getD, List.getElem?_replicate]
    split <;> rfl
  | t + 1, j, h => by
    have := sch_zero b t j (by omega)
    rw [sch, List.getD_eq_getElem?_getD, List.getElem?_set_ne (by omega), ← List.getD_eq_getElem?_getD]
    exact this
def cubesL : List W32 := [0x428a2f98, 0x71374491, 0xb5c0fbcf, 0xe9b5dba5, 0x3956c25b, 0x59f111f1, 0x923f82a4, 0xab1c5ed5, 0xd807aa98, 0x12835b01, 0x243185be, 0x550c7dc3, 0x72be5d74, 0x80deb1fe, 0x9bdc06a7, 0xc19bf174, 0xe49b69c1, 0xefbe4786, 0x0fc19dc6, 0x240ca1cc, 0x2de92c6f, 0x4a7484aa, 0x5cb0a9dc, 0x76f988da, 0x983e5152, 0xa831c66d, 0xb00327c8, 0xbf597fc7, 0xc6e00bf3, 0xd5a79147, 0x06ca6351, 0x14292967, 0x27b70a85, 0x2e1b2138, 0x4d2c6dfc, 0x53380d13, 0x650a7354, 0x766a0abb, 0x81c2c92e, 0x92722c85, 0xa2bfe8a1, 0xa81a664b, 0xc24b8b70, 0xc76c51a3, 0xd192e819, 0xd6990624, 0xf40e3585, 0x106aa070, 0x19a4c116, 0x1e376c08, 0x2748774c, 0x34b0bcb5, 0x391c0cb3, 0x4ed8aa4a, 0x5b9cca4f, 0x682e6ff3, 0x748f82ee, 0x78a5636f, 0x84c87814, 0x8cc70208, 0x90befffa, 0xa4506ceb, 0xbef9a3f7, 0xc67178f2]
def firstL : List W32 := [0x6a09e667, 0xbb67ae85, 0x3c6ef372, 0xa54ff53a, 0x510e527f, 0x9b05688c, 0x1f83d9ab, 0x5be0cd19]
def t1M (k w e v5 v6 v7 : W32) : W32 := v7 + (rotr e 6 ^^^ rotr e 11 ^^^ rotr e 25) + ((e &&& v5) ^^^ (~~~e &&& v6)) + k + w
def t2M (a v1 v2 : W32) : W32 := (rotr a 2 ^^^ rotr a 13 ^^^ rotr a 22) + ((a &&& v1) ^^^ (a &&& v2) ^^^ (v1 &&& v2))
def rnd (k w : W32) (v : List W32) : List W32 :=
  let t1 := t1M k w (v.getD 4 0) (v.getD 5 0) (v.getD 6 0) (v.getD 7 0)
  [t1 + t2M (v.getD 0 0) (v.getD 1 0) (v.getD 2 0), v.getD 0 0, v.getD 1 0, v.getD 2 0, v.getD 3 0 + t1, v.getD 4 0, v.getD 5 0, v.getD 6 0]
def rns (b : List UInt8) (h : List W32) : Nat → List W32
  | 0 => h
  | t + 1 => rnd (cubesL.getD t 0) ((sch b 64).getD t 0) (rns b h t)
theorem rns_len (b : List UInt8) {h : List W32} (hh : h.length = 8) : ∀ t, (rns b h t).length = 8
  | 0 => hh
  | t + 1 => rfl
def mixM (h : List W32) (b : List UInt8) : List W32 := List.zipWith (· + ·) h (rns b h 64)
theorem mixM_len (b : List UInt8) {h : List W32} (hh : h.length = 8) : (mixM h b).length = 8 := by
  unfold mixM
  rw [List.length_zipWith, rns_len b hh, hh]
  rfl
def foldM (h : List W32) (l : List UInt8) : List W32 := if 64 ≤ l.length then foldM (mixM h (l.take 64)) (l.drop 64) else h
  termination_by l.length
  decreasing_by simp; omega
theorem foldM_step {h : List W32} {l : List UInt8} (hl : 64 ≤ l.length) : foldM h l = foldM (mixM h (l.take 64)) (l.drop 64) := by rw [foldM, if_pos hl]
theorem foldM_end {h : List W32} {l : List UInt8} (hl : ¬ 64 ≤ l.length) : foldM h l = h := by rw [foldM, if_neg hl]
theorem foldM_len {l : List UInt8} : ∀ {h : List W32}, h.length = 8 → (foldM h l).length = 8 := by
  induction hn : l.length using Nat.strongRecOn generalizing l with
  | ind n ih =>
    intro h hh
    by_cases hl : 64 ≤ l.length
    · rw [foldM_step hl]
      exact ih _ (by simp; omega) rfl (mixM_len _ hh)
    · rw [foldM_end hl]; exact hh
/-- Whole chunks first. -/
theorem foldM_app {a b : List UInt8} (ha : a.length % 64 = 0) : ∀ {h : List W32}, foldM h (a ++ b) = foldM (foldM h a) b := by
  induction hn : a.length using Nat.strongRecOn generalizing a with
  | ind n ih =>
    intro h
    by_cases hl : 64 ≤ a.length
    · rw [foldM_step hl, foldM_step (by rw [List.length_append]; omega), List.take_append_of_le_length hl, List.drop_append_of_le_length hl]
      exact ih _ (by simp; omega) (by simp; omega) rfl
    · have : a = [] := List.eq_nil_of_length_eq_zero (by omega)
      subst this
      rw [foldM_end hl, List.nil_append]
def zer (m : Nat) : Nat := (120 - m % 64) % 64
theorem zer_lt {m j : Nat} (h : j < zer m) : (m + j) % 64 ≠ 56 := by unfold zer at h; omega
theorem zer_eq (m : Nat) : (m + zer m) % 64 = 56 := by unfold zer; omega
theorem zer_le (m : Nat) : zer m < 64 := by unfold zer; omega
def padT (r : List UInt8) (n : Nat) : List UInt8 := r ++ [128] ++ List.replicate (zer (r.length + 1)) 0 ++ be 8 (n * 8 % 18446744073709551616)
theorem padT_len (r : List UInt8) (n : Nat) : (padT r n).length % 64 = 0 := by
  unfold padT
  simp only [List.length_append, List.length_replicate, List.length_singleton, be_length]
  have := zer_eq (r.length + 1)
  omega
theorem padT_app (a r : List UInt8) (n : Nat) (ha : a.length % 64 = 0) : padT (a ++ r) n = a ++ padT r n := by
  unfold padT
  have : zer ((a ++ r).length + 1) = zer (r.length + 1) := by unfold zer; rw [List.length_append]; omega
  rw [this]
  simp
def shaL (l : List UInt8) : List W32 := foldM firstL (padT l l.length)
theorem shaL_len (l : List UInt8) : (shaL l).length = 8 := foldM_len rfl
def wOut (x : W32) : List UInt8 := [UInt8.ofNat (x >>> 24).toNat, UInt8.ofNat (x >>> 16).toNat, UInt8.ofNat (x >>> 8).toNat, UInt8.ofNat x.toNat]
theorem wOut_len (h : List W32) : (h.flatMap wOut).length = 4 * h.length := by
  induction h with
  | nil => rfl
  | cons x h ih => rw [List.flatMap_cons, List.length_append, ih]; simp [wOut]; omega
def shaM (l : List UInt8) : Vec 32 := ⟨(shaL l).flatMap wOut, by rw [wOut_len, shaL_len]⟩
end Go.Fx
set_option linter.unusedVariables false
set_option linter.unusedSimpArgs false
namespace Go.Fx
abbrev wa (g : Nat) (l : List W32) (T : TypeId) : Asn := blk g (wvs l).toArray T
theorem wvs_get {l : List W32} {i : Nat} (hi : i < l.length) : (wvs l)[i]? = some (wv (l.getD i 0)) := by
  simp [wvs, List.getD_eq_getElem?_getD, List.getElem?_eq_getElem hi]
theorem wvs_one (l : List W32) : ∀ u ∈ wvs l, u.oneCell' = true := by
  intro u hu
  obtain ⟨x, _, rfl⟩ := List.mem_map.1 hu
  rfl
theorem shl_l (x : W32) (j : IntKind) (m : Int) (h0 : 0 ≤ m) (h1 : m ≤ 32) (K : Value → Prop) : sh .shl (wv x) (.int j m) K = K (wv (x <<< m.toNat)) := by
  obtain ⟨n, rfl⟩ := Int.eq_ofNat_of_zero_le h0
  exact wv_shl x K j (by omega)
theorem shr_l (x : W32) (j : IntKind) (m : Int) (h0 : 0 ≤ m) (h1 : m ≤ 32) (K : Value → Prop) : sh .shr (wv x) (.int j m) K = K (wv (x >>> m.toNat)) := by
  obtain ⟨n, rfl⟩ := Int.eq_ofNat_of_zero_le h0
  exact wv_shr x K j (by omega)
section
variable {w0 w : World} {g : Nat} {l : List W32} {t : TypeId} {fr : Nat × Nat} {h : Heap} {As : List Asn}
theorem ld_w (hg : h[g]? = some (.cells (wvs l).toArray t fr)) {i : Nat} (hi : i < l.length) (K : Value → Prop) : ld1 (.pointer (some ⟨g, i, none⟩)) h K = K (wv (l.getD i 0)) := by
  rw [ld1_eq hg, List.getElem?_toArray, wvs_get hi]
  exact ex_some _ K
theorem ldN_w (hg : h[g]? = some (.cells (wvs l).toArray t fr)) {n : Nat} (hn : l.length = n) (K : Value → Prop) : ldN n (.pointer (some ⟨g, 0, none⟩)) h K = K (.agg (wvs l).toArray) := by
  have hl : (wvs l).length = n := by simp [wvs, hn]
  rw [ldN_eq hg]
  have e : (wvs l).toArray.extract 0 (0 + n) = (wvs l).toArray := by
    apply Array.ext'
    simp [← hl]
  rw [e]
  exact propext ⟨fun h => h.2, fun h => ⟨by simp [hl], h⟩⟩
theorem st_w {K : World → Prop} (hs : Sep w0 w (wa g l t :: As)) {i : Nat} (hi : i < l.length) (x : W32) (h : ∀ w', Sep w0 w' (wa g (l.set i x) t :: As) → K w') : st1 (.pointer (some ⟨g, i, none⟩)) (wv x) w K := by
  refine st1_s hs (by simpa [wvs] using hi) rfl fun w' hs' => h w' ?_
  have e : (wvs l).toArray.setIfInBounds i (wv x) = (wvs (l.set i x)).toArray := by
    apply Array.ext'
    simp [wvs, List.map_set]
  rw [e] at hs'
  exact hs'
theorem stN_w {K : World → Prop} {n : Nat} {l' : List W32} (hs : Sep w0 w (wa g l t :: As)) (hl : l.length = n) (hl' : l'.length = n) (h : ∀ w', Sep w0 w' (wa g l' t :: As) → K w') :
    stN n (.pointer (some ⟨g, 0, none⟩)) (.agg (wvs l').toArray) w K := by
  refine stN_s hs (by simp [wvs, hl']) (by simp [wvs, hl]) (by simpa using wvs_one l') fun w' hs' => h w' ?_
  have e : splice (wvs l).toArray 0 (wvs l').toArray.toList = (wvs l').toArray := by
    apply Array.ext'
    simp [splice, wvs, hl', ← hl]
  rw [e] at hs'
  exact hs'
theorem ixa_l {n : Nat} (k : IntKind) (i : Int) (h0 : 0 ≤ i) (hi : i < n) (K : Value → Prop) : ixa n 1 (.pointer (some ⟨g, 0, none⟩)) (.int k i) K = K (.pointer (some ⟨g, i.toNat, none⟩)) := by
  rw [ixa_mk _ _ _ _ _ _ _ h0 hi, Nat.zero_add, Nat.mul_one]
theorem ixv_w {n i : Nat} (k : IntKind) (hl : l.length = n) (hi : i < n) (K : Value → Prop) : ixv n 1 false (.agg (wvs l).toArray) (.int k (i : Int)) K = K (wv (l.getD i 0)) := by
  refine propext ⟨fun ⟨cs, k', j, h1, h2, h3, h4, h5⟩ => ?_, fun h => ⟨_, _, _, rfl, rfl, by omega, by omega, ?_⟩⟩
  · cases h1; cases h2
    obtain ⟨v, hv, hk⟩ := (show ∃ v, _ ∧ _ from h5)
    rw [Int.toNat_natCast, Nat.mul_one, List.getElem?_toArray, wvs_get (by omega)] at hv
    cases hv
    exact hk
  · show ∃ v, _ ∧ _
    exact ⟨_, by rw [Int.toNat_natCast, Nat.mul_one, List.getElem?_toArray, wvs_get (by omega)], h⟩
theorem A_a64 (w : World) : (Instr.alloc T_a64_uint32 true (.tuple #[])).run P w = .ok (.pointer (some ⟨w.heap.size, 0, none⟩)) (w.alloc (.cells (wvs (List.replicate 64 0)).toArray T_a64_uint32)) := by kernel_rfl
theorem A_a8 (w : World) : (Instr.alloc T_a8_uint32 true (.tuple #[])).run P w = .ok (.pointer (some ⟨w.heap.size, 0, none⟩)) (w.alloc (.cells (wvs (List.replicate 8 0)).toArray T_a8_uint32)) := by kernel_rfl
theorem Rot_spec {x : W32} (m : Int) (n : Nat) (hn : n ≤ 32) (hk : IntKind.u64.wrap ((BitVec.ofInt IntKind.u64.bits (IntKind.u64.wrap m) &&& BitVec.ofInt IntKind.u64.bits 31).toNat : Int) = ((32 - n : Nat) : Int)) :
    cal P f_math_bits_RotateLeft32 [wv x, .int .i64 m] w fun r w' => r = wv (rotr x n) ∧ w = w' := by
  refine s_math_bits_RotateLeft32 fun R hR => ?_
  unfold c_math_bits_RotateLeft32
  rw [cvi_int, bi_and, hk, wv_shl x _ .u64 (by omega), bi_sub]
  have e : IntKind.u64.wrap (32 - ((32 - n : Nat) : Int)) = (n : Int) := by rw [wu64i (by omega) (by omega)]; omega
  rw [e, wv_shr x _ .u64 hn, wv_or]
  exact hR _ _ ⟨rfl, rfl⟩
theorem turned_spec {x : W32} (m : Int) (n : Nat) (hm : m = n) (hn : n ≤ 32) : cal P f_ref02_turned [wv x, .int .u64 m] w fun r w' => r = wv (rotr x n) ∧ w = w' := by
  subst hm
  refine s_ref02_turned fun R hR => ?_
  unfold c_ref02_turned
  rw [wv_shr x _ .u64 hn, bi_sub]
  have e : IntKind.u64.wrap (32 - (n : Int)) = ((32 - n : Nat) : Int) := by rw [wu64i (by omega) (by omega)]; omega
  rw [e, wv_shl x _ .u64 (by omega), wv_or, BitVec.or_comm]
  exact hR _ _ ⟨rfl, rfl⟩
end
end Go.Fx
set_option linter.unusedVariables false
set_option linter.unusedSimpArgs false
namespace Go.Fx
section
variable {w0 w : World} {b : Value} {l : List UInt8}
theorem getD_eq {l : List UInt8} {i : Nat} (h : i < l.length) : l[i] = l.getD i 0 := by simp [List.getD_eq_getElem?_getD, List.getElem?_eq_getElem h]
theorem schedule_spec (hb : RdB w.heap b l) (hl : l.length = 64) : cal P f_sha_schedule [b] w fun r w' => r = .agg (wvs (sch l 64)).toArray ∧ Fr [] w w' := by
  refine s_sha_schedule fun R hR => ?_
  unfold c_sha_schedule
  refine alloc_s (Sep.start w) (A_a64 w) fun g2 w2 hs => ?_
  refine alloc_s hs (A_a64 w2) fun g3 w3 hs => ?_
  refine ⟨fun a w' => ∃ t : Nat, a = .int .i64 t ∧ t ≤ 64 ∧ Sep w w' [wa g3 (sch l t) T_a64_uint32, wa g2 (List.replicate 64 0) T_a64_uint32], fun z _ => (64 - RowKit.intOf z).toNat, ⟨0, rfl, by omega, hs⟩, ?_⟩
  rintro _ w4 ⟨t, rfl, ht, hs4⟩ -
  simp only [fx, Nat.reduceAdd, forall_const]
  have hlen := sch_len l t
  rw [cnd_bool]
  refine ⟨fun h => ?_, fun h => ?_⟩
  · have h64 : t < 64 := by simp at h; omega
    refine ⟨fun w' => Sep w w' [wa g3 (sch l (t + 1)) T_a64_uint32, wa g2 (List.replicate 64 0) T_a64_uint32], ?_, ?_⟩
    · change cnd _ _ _
      rw [cnd_bool]
      refine ⟨fun h => ?_, fun h => ?_⟩
      · have h16 : t < 16 := by simp at h; omega
        refine drH_s hs4 fun w5 hs5 _ => ?_
        have hb5 := hs5.rdB hb
        have e0 : IntKind.i64.wrap (4 * (t : Int)) = ((4 * t : Nat) : Int) := by rw [wi64 (by omega) (by omega)]; omega
        have e1 : IntKind.i64.wrap (((4 * t : Nat) : Int) + 1) = ((4 * t + 1 : Nat) : Int) := by rw [wi64 (by omega) (by omega)]; omega
        have e2 : IntKind.i64.wrap (((4 * t : Nat) : Int) + 2) = ((4 * t + 2 : Nat) : Int) := by rw [wi64 (by omega) (by omega)]; omega
        have e3 : IntKind.i64.wrap (((4 * t : Nat) : Int) + 3) = ((4 * t + 3 : Nat) : Int) := by rw [wi64 (by omega) (by omega)]; omega
        simp only [rdS_ld1, e0, e1, e2, e3]
        refine ldxB hb5 (by omega) ?_
        rw [wv_b, shl_l _ .u64 24 (by decide) (by decide)]
        refine ldxB hb5 (by omega) ?_
        rw [wv_b, shl_l _ .u64 16 (by decide) (by decide), wv_or]
        refine ldxB hb5 (by omega) ?_
        rw [wv_b, shl_l _ .u64 8 (by decide) (by decide), wv_or]
        refine ldxB hb5 (by omega) ?_
        rw [wv_b, wv_or, ixa_w .i64 h64]
        refine efC_st1 (st_w hs5 (by omega) _ fun w6 hs6 => ?_)
        rw [sch, nextW, if_pos h16, wd, ← word4_or, ← getD_eq (by omega), ← getD_eq (by omega), ← getD_eq (by omega), ← getD_eq (by omega)]
        exact hs6
      · have h16 : ¬ t < 16 := by simp at h; omega
        refine drw_s hs4 fun w5 hs5 _ => ?_
        have e15 : IntKind.i64.wrap ((t : Int) - 15) = ((t - 15 : Nat) : Int) := by rw [wi64 (by omega) (by omega)]; omega
        have e2 : IntKind.i64.wrap ((t : Int) - 2) = ((t - 2 : Nat) : Int) := by rw [wi64 (by omega) (by omega)]; omega
        have e7 : IntKind.i64.wrap ((t : Int) - 7) = ((t - 7 : Nat) : Int) := by rw [wi64 (by omega) (by omega)]; omega
        have e16 : IntKind.i64.wrap ((t : Int) - 16) = ((t - 16 : Nat) : Int) := by rw [wi64 (by omega) (by omega)]; omega
        rw [e15, ixa_w .i64 (by omega), ld_w hs5.blk (by omega), e2, ixa_w .i64 (by omega), ld_w hs5.blk (by omega)]
        refine cal_i (Rot_spec (-7) 7 (by decide) (by decide)) ?_
        rintro _ _ ⟨rfl, rfl⟩
        refine cal_i (Rot_spec (-18) 18 (by decide) (by decide)) ?_
        rintro _ _ ⟨rfl, rfl⟩
        rw [wv_xor, shr_l _ .u64 3 (by decide) (by decide), wv_xor]
        refine cal_i (Rot_spec (-17) 17 (by decide) (by decide)) ?_
        rintro _ _ ⟨rfl, rfl⟩
        refine cal_i (Rot_spec (-19) 19 (by decide) (by decide)) ?_
        rintro _ _ ⟨rfl, rfl⟩
        rw [wv_xor, shr_l _ .u64 10 (by decide) (by decide), wv_xor]
        refine drH_s hs5 fun w6 hs6 _ => ?_
        simp only [rdS_ld1, e7, e16]
        rw [ixa_w .i64 (by omega), ld_w hs6.blk (by omega), wv_add, wv_add, ixa_w .i64 (by omega), ld_w hs6.blk (by omega), wv_add, ixa_w .i64 h64]
        refine efC_st1 (st_w hs6 (by omega) _ fun w7 hs7 => ?_)
        rw [sch, nextW, if_neg h16]
        exact hs7
    · intro w5 hs5 _
      rw [wi64 (by omega) (by omega)]
      exact ⟨⟨t + 1, by simp, by omega, hs5⟩, by simp [RowKit.intOf]; omega⟩
  · have h64 : t = 64 := by simp at h; omega
    subst h64
    rw [ldN_w hs4.blk hlen]
    refine stN_w hs4.p1 (by simp) hlen fun w5 hs5 => ?_
    rw [ldN_w hs5.blk hlen]
    exact hR _ _ ⟨rfl, hs5.fr0⟩
theorem words_spec (hb : RdB w.heap b l) (hl : l.length = 64) : cal P f_ref02_words [b] w fun r w' => r = .agg (wvs (sch l 64)).toArray ∧ Fr [] w w' := by
  refine s_ref02_words fun R hR => ?_
  unfold c_ref02_words
  refine alloc_s (Sep.start w) (A_a64 w) fun g2 w2 hs => ?_
  refine alloc_s hs (A_a64 w2) fun g3 w3 hs => ?_
  refine ⟨fun a w' => ∃ t : Nat, a = .int .i64 t ∧ t ≤ 16 ∧ Sep w w' [wa g3 (sch l t) T_a64_uint32, wa g2 (List.replicate 64 0) T_a64_uint32], fun z _ => (16 - RowKit.intOf z).toNat, ⟨0, rfl, by omega, hs⟩, ?_⟩
  rintro _ w4 ⟨t, rfl, ht, hs4⟩ -
  simp only [fx, Nat.reduceAdd, forall_const]
  have hlen := sch_len l t
  rw [cnd_bool]
  refine ⟨fun h => ?_, fun h => ?_⟩
  · have h16 : t < 16 := by simp at h; omega
    obtain ⟨part, hp⟩ : ∃ part : Nat → W32, part = fun i => ((l.drop (4 * t)).take i).foldl (fun v b => v * 256 + bw b) 0 := ⟨_, rfl⟩
    have hp0 : part 0 = 0 := by rw [hp]; rfl
    have hps : ∀ i, i < 4 → part (i + 1) = part i * 256 + bw (l.getD (4 * t + i) 0) := fun i hi => by
      have hlt : i < (l.drop (4 * t)).length := by simp; omega
      rw [hp]
      simp only []
      rw [List.take_add_one, List.getElem?_eq_getElem hlt, List.foldl_append]
      simp [List.getD_eq_getElem?_getD, List.getElem?_eq_getElem (show 4 * t + i < l.length by omega)]
    have hp4 : part 4 = wd l t := by
      rw [hps 3 (by omega), hps 2 (by omega), hps 1 (by omega), hps 0 (by omega), hp0, word4_sum]
      rfl
    refine ⟨fun a w' => ∃ i : Nat, a = .int .i64 i ∧ i ≤ 4 ∧ Sep w w' [wa g3 ((sch l t).set t (part i)) T_a64_uint32, wa g2 (List.replicate 64 0) T_a64_uint32], fun z _ => (4 - RowKit.intOf z).toNat, ⟨0, rfl, by omega, ?_⟩, ?_⟩
    · have e : (sch l t).set t (part 0) = sch l t := by
        rw [hp0]
        apply List.ext_getElem?
        intro j
        by_cases hj : t = j
        · subst hj
          have := sch_zero l t t (Nat.le_refl _)
          rw [List.getD_eq_getElem?_getD, List.getElem?_eq_getElem (by omega)] at this
          rw [List.getElem?_set_self (by omega), List.getElem?_eq_getElem (by omega)]
          simpa using this.symm
        · rw [List.getElem?_set_ne hj]
      rw [e]
      exact hs4
    rintro _ w5 ⟨i, rfl, hi, hs5⟩ -
    simp only [fx, Nat.reduceAdd, forall_const]
    rw [cnd_bool]
    refine ⟨fun h => ?_, fun h => ?_⟩
    · have h4 : i < 4 := by simp at h; omega
      refine drH_s hs5 fun w6 hs6 _ => ?_
      have e0 : IntKind.i64.wrap (4 * (t : Int)) = ((4 * t : Nat) : Int) := by rw [wi64 (by omega) (by omega)]; omega
      have e1 : IntKind.i64.wrap (((4 * t : Nat) : Int) + (i : Int)) = ((4 * t + i : Nat) : Int) := by rw [wi64 (by omega) (by omega)]; omega
      simp only [rdS_ld1, e0, e1]
      rw [ixa_w .i64 (by omega), ld_w hs6.blk (by simp; omega), wv_mul256]
      refine ldxB (hs6.rdB hb) (by omega) ?_
      rw [wv_b, wv_add, ixa_w .i64 (by omega)]
      refine efC_st1 (st_w hs6 (by simp; omega) _ fun w7 hs7 => ?_)
      rw [wi64 (by omega) (by omega)]
      refine ⟨⟨i + 1, by simp, by omega, ?_⟩, by simp [RowKit.intOf]; omega⟩
      rw [List.set_set] at hs7
      have e : ((sch l t).set t (part i)).getD t 0 = part i := by rw [List.getD_eq_getElem?_getD, List.getElem?_set_self (by omega)]; rfl
      rw [e, getD_eq (by omega)] at hs7
      rw [hps i h4]
      exact hs7
    · have h4 : i = 4 := by simp at h; omega
      subst h4
      rw [wi64 (by omega) (by omega)]
      rw [hp4] at hs5
      refine ⟨⟨t + 1, by simp, by omega, ?_⟩, by simp [RowKit.intOf]; omega⟩
      rw [sch, nextW, if_pos h16]
      exact hs5
  · have h16 : t = 16 := by simp at h; omega
    subst h16
    refine ⟨fun a w' => ∃ t : Nat, a = .int .i64 t ∧ 16 ≤ t ∧ t ≤ 64 ∧ Sep w w' [wa g3 (sch l t) T_a64_uint32, wa g2 (List.replicate 64 0) T_a64_uint32], fun z _ => (64 - RowKit.intOf z).toNat, ⟨16, rfl, by omega, by omega, hs4⟩, ?_⟩
    rintro _ w5 ⟨t, rfl, ht1, ht2, hs5⟩ -
    simp only [fx, Nat.reduceAdd, forall_const]
    have hlen := sch_len l t
    rw [cnd_bool]
    refine ⟨fun h => ?_, fun h => ?_⟩
    · have h64 : t < 64 := by simp at h; omega
      have e15 : IntKind.i64.wrap ((t : Int) - 15) = ((t - 15 : Nat) : Int) := by rw [wi64 (by omega) (by omega)]; omega
      have e2 : IntKind.i64.wrap ((t : Int) - 2) = ((t - 2 : Nat) : Int) := by rw [wi64 (by omega) (by omega)]; omega
      have e7 : IntKind.i64.wrap ((t : Int) - 7) = ((t - 7 : Nat) : Int) := by rw [wi64 (by omega) (by omega)]; omega
      have e16 : IntKind.i64.wrap ((t : Int) - 16) = ((t - 16 : Nat) : Int) := by rw [wi64 (by omega) (by omega)]; omega
      rw [e15, ixa_w .i64 (by omega), ld_w hs5.blk (by omega), e2, ixa_w .i64 (by omega), ld_w hs5.blk (by omega)]
      refine cal_i (turned_spec 7 7 rfl (by decide)) ?_
      rintro _ _ ⟨rfl, rfl⟩
      refine cal_i (turned_spec 18 18 rfl (by decide)) ?_
      rintro _ _ ⟨rfl, rfl⟩
      rw [wv_xor, shr_l _ .u64 3 (by decide) (by decide), wv_xor]
      refine cal_i (turned_spec 17 17 rfl (by decide)) ?_
      rintro _ _ ⟨rfl, rfl⟩
      refine cal_i (turned_spec 19 19 rfl (by decide)) ?_
      rintro _ _ ⟨rfl, rfl⟩
      rw [wv_xor, shr_l _ .u64 10 (by decide) (by decide), wv_xor]
      refine drH_s hs5 fun w6 hs6 _ => ?_
      simp only [rdS_ld1, e7, e16]
      rw [ixa_w .i64 (by omega), ld_w hs6.blk (by omega), wv_add, wv_add, ixa_w .i64 (by omega), ld_w hs6.blk (by omega), wv_add, ixa_w .i64 h64]
      refine efC_st1 (st_w hs6 (by omega) _ fun w7 hs7 => ?_)
      rw [wi64 (by omega) (by omega)]
      refine ⟨⟨t + 1, by simp, by omega, by omega, ?_⟩, by simp [RowKit.intOf]; omega⟩
      rw [sch, nextW, if_neg (by omega)]
      exact hs7
    · have h64 : t = 64 := by simp at h; omega
      subst h64
      rw [ldN_w hs5.blk hlen]
      refine stN_w hs5.p1 (by simp) hlen fun w6 hs6 => ?_
      rw [ldN_w hs6.blk hlen]
      exact hR _ _ ⟨rfl, hs6.fr0⟩
end
end Go.Fx
set_option linter.unusedVariables false
set_option linter.unusedSimpArgs false
namespace Go.Fx
/-- The words that are added stand in the program's variable. -/
def Cub (w : World) : Prop := ∃ t fr, w.heap[0]? = some (.cells (wvs cubesL).toArray t fr)
theorem Cub.fr {w w' : World} (h : Cub w) (hf : Fr [] w w') : Cub w' := by
  obtain ⟨t, fr, h⟩ := h
  exact ⟨t, fr, hf.blk h (by simp)⟩
section
variable {w0 w : World} {b : Value} {l : List UInt8} {h : List W32}
theorem B_a8 (a0 a1 a2 a3 a4 a5 a6 a7 : W32) (K : Value → Prop) : rdP P (Instr.build T_a8_uint32 #[(0, wv a0), (1, wv a1), (2, wv a2), (3, wv a3), (4, wv a4), (5, wv a5), (6, wv a6), (7, wv a7)]) w K = K (.agg (wvs [a0, a1, a2, a3, a4, a5, a6, a7]).toArray) := rdP_eq (by kernel_rfl) K
theorem B_cubes (K : Value → Prop) : rdP P (Instr.build T_a64_uint32 #[(0, (Value.int IntKind.u32 1116352408)), (1, (Value.int IntKind.u32 1899447441)), (2, (Value.int IntKind.u32 3049323471)), (3, (Value.int IntKind.u32 3921009573)), (4, (Value.int IntKind.u32 961987163)), (5, (Value.int IntKind.u32 1508970993)), (6, (Value.int IntKind.u32 2453635748)), (7, (Value.int IntKind.u32 2870763221)), (8, (Value.int IntKind.u32 3624381080)), (9, (Value.int IntKind.u32 310598401)), (10, (Value.int IntKind.u32 607225278)), (11, (Value.int IntKind.u32 1426881987)), (12, (Value.int IntKind.u32 1925078388)), (13, (Value.int IntKind.u32 2162078206)), (14, (Value.int IntKind.u32 2614888103)), (15, (Value.int IntKind.u32 3248222580)), (16, (Value.int IntKind.u32 3835390401)), (17, (Value.int IntKind.u32 4022224774)), (18, (Value.int IntKind.u32 264347078)), (19, (Value.int IntKind.u32 604807628)), (20, (Value.int IntKind.u32 770255983)), (21, (Value.int IntKind.u32 1249150122)), (22, (Value.int IntKind.u32 1555081692)), (23, (Value.int IntKind.u32 1996064986)), (24, (Value.int IntKind.u32 2554220882)), (25, (Value.int IntKind.u32 2821834349)), (26, (Value.int IntKind.u32 2952996808)), (27, (Value.int IntKind.u32 3210313671)), (28, (Value.int IntKind.u32 3336571891)), (29, (Value.int IntKind.u32 3584528711)), (30, (Value.int IntKind.u32 113926993)), (31, (Value.int IntKind.u32 338241895)), (32, (Value.int IntKind.u32 666307205)), (33, (Value.int IntKind.u32 773529912)), (34, (Value.int IntKind.u32 1294757372)), (35, (Value.int IntKind.u32 1396182291)), (36, (Value.int IntKind.u32 1695183700)), (37, (Value.int IntKind.u32 1986661051)), (38, (Value.int IntKind.u32 2177026350)), (39, (Value.int IntKind.u32 2456956037)), (40, (Value.int IntKind.u32 2730485921)), (41, (Value.int IntKind.u32 2820302411)), (42, (Value.int IntKind.u32 3259730800)), (43, (Value.int IntKind.u32 3345764771)), (44, (Value.int IntKind.u32 3516065817)), (45, (Value.int IntKind.u32 3600352804)), (46, (Value.int IntKind.u32 4094571909)), (47, (Value.int IntKind.u32 275423344)), (48, (Value.int IntKind.u32 430227734)), (49, (Value.int IntKind.u32 506948616)), (50, (Value.int IntKind.u32 659060556)), (51, (Value.int IntKind.u32 883997877)), (52, (Value.int IntKind.u32 958139571)), (53, (Value.int IntKind.u32 1322822218)), (54, (Value.int IntKind.u32 1537002063)), (55, (Value.int IntKind.u32 1747873779)), (56, (Value.int IntKind.u32 1955562222)), (57, (Value.int IntKind.u32 2024104815)), (58, (Value.int IntKind.u32 2227730452)), (59, (Value.int IntKind.u32 2361852424)), (60, (Value.int IntKind.u32 2428436474)), (61, (Value.int IntKind.u32 2756734187)), (62, (Value.int IntKind.u32 3204031479)), (63, (Value.int IntKind.u32 3329325298))]) w K = K (.agg (wvs cubesL).toArray) := rdP_eq (by kernel_rfl) K
theorem constants_spec : cal P f_ref02_constants [] w fun r w' => r = .agg (wvs cubesL).toArray ∧ Fr [] w w' := by
  refine s_ref02_constants fun R hR => ?_
  unfold c_ref02_constants
  refine alloc_s (Sep.start w) (A_a64 w) fun g w1 hs => ?_
  rw [B_cubes]
  refine stN_w hs (by simp) rfl fun w2 hs => ?_
  rw [ldN_w (n := 64) hs.blk rfl]
  exact hR _ _ ⟨rfl, hs.fr0⟩
def hz (h v : List W32) (i : Nat) : List W32 := (List.zipWith (· + ·) h v).take i ++ h.drop i
theorem hz_zero (h v : List W32) : hz h v 0 = h := by simp [hz]
theorem hz_len {h v : List W32} (hh : h.length = 8) (hv : v.length = 8) {i : Nat} (hi : i ≤ 8) : (hz h v i).length = 8 := by simp [hz, hh, hv]; omega
theorem hz_get {h v : List W32} (hh : h.length = 8) (hv : v.length = 8) {i : Nat} (hi : i < 8) : (hz h v i).getD i 0 = h.getD i 0 := by
  have hl : ((List.zipWith (· + ·) h v).take i).length = i := by simp [hh, hv]; omega
  rw [List.getD_eq_getElem?_getD, hz, List.getElem?_append_right (by omega), hl, Nat.sub_self, List.getElem?_drop, Nat.add_zero, List.getD_eq_getElem?_getD]
theorem hz_step {h v : List W32} (hh : h.length = 8) (hv : v.length = 8) {i : Nat} (hi : i < 8) : (hz h v i).set i (h.getD i 0 + v.getD i 0) = hz h v (i + 1) := by
  have hl : ((List.zipWith (· + ·) h v).take i).length = i := by simp [hh, hv]; omega
  have hzl : (List.zipWith (· + ·) h v).length = 8 := by simp [hh, hv]
  unfold hz
  rw [List.set_append_right _ _ (by omega), hl, Nat.sub_self, List.drop_eq_getElem_cons (show i < h.length by omega), List.set_cons_zero, List.take_add_one, List.getElem?_eq_getElem (show i < (List.zipWith (· + ·) h v).length by omega)]
  simp [List.getD_eq_getElem?_getD, List.getElem?_eq_getElem (show i < h.length by omega), List.getElem?_eq_getElem (show i < v.length by omega)]
theorem hz_end {h v : List W32} (hh : h.length = 8) (hv : v.length = 8) : hz h v 8 = List.zipWith (· + ·) h v := by
  unfold hz
  rw [List.take_of_length_le (by simp [hh, hv]), List.drop_of_length_le (by omega), List.append_nil]
theorem mixed_spec (hc : Cub w) (hb : RdB w.heap b l) (hl : l.length = 64) (hh : h.length = 8) : cal P f_sha_mixed [.agg (wvs h).toArray, b] w fun r w' => r = .agg (wvs (mixM h l)).toArray ∧ Fr [] w w' := by
  refine s_sha_mixed fun R hR => ?_
  unfold c_sha_mixed
  refine bx_s (Sep.start w) fun g2 w1 hs => ?_
  simp only [Value.cells] at hs
  refine alloc_s hs (A_a8 w1) fun g4 w2 hs => ?_
  rw [ldN_w (Sep.p1 hs).blk hh]
  refine alloc_s hs (A_a8 w2) fun g5 w3 hs => ?_
  refine stN_w hs (by simp) hh fun w4 hs => ?_
  refine cal_i (schedule_spec (hs.rdB hb) hl) ?_
  rintro _ w5 ⟨rfl, hf5⟩
  replace hs := hs.old hf5
  have hsl := sch_len l 64
  refine ⟨fun a w' => ∃ t : Nat, a = .int .i64 t ∧ t ≤ 64 ∧ Sep w w' [wa g5 (rns l h t) T_a8_uint32, wa g4 (List.replicate 8 0) T_a8_uint32, wa g2 h T_a8_uint32], fun z _ => (64 - RowKit.intOf z).toNat, ⟨0, rfl, by omega, hs⟩, ?_⟩
  rintro _ w6 ⟨t, rfl, ht, hs6⟩ -
  simp only [fx, Nat.reduceAdd, forall_const]
  have hvl := rns_len l hh t
  rw [cnd_bool]
  refine ⟨fun hlt => ?_, fun hlt => ?_⟩
  · have h64 : t < 64 := by simp at hlt; omega
    rw [ixv_w .i64 hsl h64]
    refine drw_s hs6 fun w7 hs7 _ => ?_
    generalize hv : rns l h t = v at *
    have i0 : ∀ K, ixa 8 1 (.pointer (some ⟨g5, 0, none⟩)) (.int .i64 0) K = K (.pointer (some ⟨g5, 0, none⟩)) := fun K => ixa_l .i64 0 (by decide) (by decide) K
    have i1 : ∀ K, ixa 8 1 (.pointer (some ⟨g5, 0, none⟩)) (.int .i64 1) K = K (.pointer (some ⟨g5, 1, none⟩)) := fun K => ixa_l .i64 1 (by decide) (by decide) K
    have i2 : ∀ K, ixa 8 1 (.pointer (some ⟨g5, 0, none⟩)) (.int .i64 2) K = K (.pointer (some ⟨g5, 2, none⟩)) := fun K => ixa_l .i64 2 (by decide) (by decide) K
    have i3 : ∀ K, ixa 8 1 (.pointer (some ⟨g5, 0, none⟩)) (.int .i64 3) K = K (.pointer (some ⟨g5, 3, none⟩)) := fun K => ixa_l .i64 3 (by decide) (by decide) K
    have i4 : ∀ K, ixa 8 1 (.pointer (some ⟨g5, 0, none⟩)) (.int .i64 4) K = K (.pointer (some ⟨g5, 4, none⟩)) := fun K => ixa_l .i64 4 (by decide) (by decide) K
    have i5 : ∀ K, ixa 8 1 (.pointer (some ⟨g5, 0, none⟩)) (.int .i64 5) K = K (.pointer (some ⟨g5, 5, none⟩)) := fun K => ixa_l .i64 5 (by decide) (by decide) K
    have i6 : ∀ K, ixa 8 1 (.pointer (some ⟨g5, 0, none⟩)) (.int .i64 6) K = K (.pointer (some ⟨g5, 6, none⟩)) := fun K => ixa_l .i64 6 (by decide) (by decide) K
    have i7 : ∀ K, ixa 8 1 (.pointer (some ⟨g5, 0, none⟩)) (.int .i64 7) K = K (.pointer (some ⟨g5, 7, none⟩)) := fun K => ixa_l .i64 7 (by decide) (by decide) K
    rw [i0, ld_w hs7.blk (by omega), i4, ld_w hs7.blk (by omega)]
    refine cal_i (Rot_spec (-6) 6 (by decide) (by decide)) ?_
    rintro _ _ ⟨rfl, rfl⟩
    refine cal_i (Rot_spec (-11) 11 (by decide) (by decide)) ?_
    rintro _ _ ⟨rfl, rfl⟩
    rw [wv_xor]
    refine cal_i (Rot_spec (-25) 25 (by decide) (by decide)) ?_
    rintro _ _ ⟨rfl, rfl⟩
    rw [wv_xor]
    refine drw_s hs7 fun w8 hs8 _ => ?_
    obtain ⟨tc, fc, hcub⟩ := hc.fr hs8.fr0
    rw [i7, ld_w hs8.blk (by omega), wv_add, i5, ld_w hs8.blk (by omega), wv_and, wv_not, i6, ld_w hs8.blk (by omega), wv_and, wv_xor, wv_add, ixa_w .i64 h64, ld_w hcub (by show t < 64; omega), wv_add, wv_add]
    refine cal_i (Rot_spec (-2) 2 (by decide) (by decide)) ?_
    rintro _ _ ⟨rfl, rfl⟩
    refine cal_i (Rot_spec (-13) 13 (by decide) (by decide)) ?_
    rintro _ _ ⟨rfl, rfl⟩
    rw [wv_xor]
    refine cal_i (Rot_spec (-22) 22 (by decide) (by decide)) ?_
    rintro _ _ ⟨rfl, rfl⟩
    have hld : ∀ i, i < 8 → ∀ K, ld1 (.pointer (some ⟨g5, i, none⟩)) w8.heap K = K (wv (v.getD i 0)) := fun i hi K => ld_w hs8.blk (by omega) K
    rw [wv_xor, i1, hld 1 (by decide), wv_and, i2, hld 2 (by decide), wv_and, wv_xor, i1, hld 1 (by decide), i2, hld 2 (by decide), wv_and, wv_xor, wv_add, wv_add, i1, hld 1 (by decide), i2, hld 2 (by decide), i3, hld 3 (by decide), wv_add, i5, hld 5 (by decide), i6, hld 6 (by decide), B_a8]
    refine stN_w hs8 (by omega) rfl fun w9 hs9 => ?_
    rw [wi64 (by omega) (by omega)]
    refine ⟨⟨t + 1, by simp, by omega, ?_⟩, by simp [RowKit.intOf]; omega⟩
    rw [rns, hv]
    exact hs9
  · have h64 : t = 64 := by simp at hlt; omega
    subst h64
    generalize hv : rns l h 64 = v at *
    refine ⟨fun a w' => ∃ i : Nat, a = .int .i64 i ∧ i ≤ 8 ∧ Sep w w' [wa g2 (hz h v i) T_a8_uint32, wa g5 v T_a8_uint32, wa g4 (List.replicate 8 0) T_a8_uint32], fun z _ => (8 - RowKit.intOf z).toNat, ⟨0, rfl, by omega, by rw [hz_zero]; exact hs6.p2⟩, ?_⟩
    rintro _ w7 ⟨i, rfl, hi, hs7⟩ -
    simp only [fx, Nat.reduceAdd, forall_const]
    have hzl := hz_len hh hvl hi
    rw [cnd_bool]
    refine ⟨fun hlt => ?_, fun hlt => ?_⟩
    · have h8 : i < 8 := by simp at hlt; omega
      refine drH_s hs7 fun w8 hs8 _ => ?_
      simp only [rdS_ld1]
      rw [ixa_w .i64 h8, ld_w hs8.blk (by omega), ixa_w .i64 h8, ld_w (Sep.p1 hs8).blk (by omega), wv_add, ixa_w .i64 h8, hz_get hh hvl h8]
      refine efC_st1 (st_w hs8 (by omega) _ fun w9 hs9 => ?_)
      rw [wi64 (by omega) (by omega)]
      rw [hz_step hh hvl h8] at hs9
      exact ⟨⟨i + 1, by simp, by omega, hs9⟩, by simp [RowKit.intOf]; omega⟩
    · have h8 : i = 8 := by simp at hlt; omega
      subst h8
      rw [ldN_w hs7.blk hzl]
      refine stN_w hs7.p2 (by simp) hzl fun w8 hs8 => ?_
      rw [ldN_w hs8.blk hzl]
      refine hR _ _ ⟨?_, hs8.fr0⟩
      rw [hz_end hh hvl, mixM, hv]
theorem goes_spec (hb : RdB w.heap b l) (hl : l.length = 64) (hh : h.length = 8) : cal P f_ref02_goes [.agg (wvs h).toArray, b] w fun r w' => r = .agg (wvs (mixM h l)).toArray ∧ Fr [] w w' := by
  refine s_ref02_goes fun R hR => ?_
  unfold c_ref02_goes
  refine bx_s (Sep.start w) fun g2 w1 hs => ?_
  simp only [Value.cells] at hs
  refine alloc_s hs (A_a8 w1) fun g4 w2 hs => ?_
  refine cal_i (words_spec (hs.rdB hb) hl) ?_
  rintro _ w3 ⟨rfl, hf3⟩
  replace hs := hs.old hf3
  have hsl := sch_len l 64
  refine alloc_s hs (A_a64 w3) fun g5 w4 hs => ?_
  refine stN_w hs (by simp) hsl fun w5 hs => ?_
  refine cal_i constants_spec ?_
  rintro _ w6 ⟨rfl, hf6⟩
  replace hs := hs.old hf6
  refine alloc_s hs (A_a64 w6) fun g6 w7 hs => ?_
  refine stN_w hs (by simp) rfl fun w8 hs => ?_
  rw [ldN_w (Sep.p3 hs).blk hh]
  refine alloc_s hs (A_a8 w8) fun g7 w9 hs => ?_
  refine stN_w hs (by simp) hh fun w10 hs => ?_
  refine ⟨fun a w' => ∃ t : Nat, a = .int .i64 t ∧ t ≤ 64 ∧ Sep w w' [wa g7 (rns l h t) T_a8_uint32, wa g6 cubesL T_a64_uint32, wa g5 (sch l 64) T_a64_uint32, wa g4 (List.replicate 8 0) T_a8_uint32, wa g2 h T_a8_uint32], fun z _ => (64 - RowKit.intOf z).toNat, ⟨0, rfl, by omega, hs⟩, ?_⟩
  rintro _ w11 ⟨t, rfl, ht, hs6⟩ -
  simp only [fx, Nat.reduceAdd, forall_const]
  have hvl := rns_len l hh t
  have hcl : cubesL.length = 64 := rfl
  rw [cnd_bool]
  refine ⟨fun hlt => ?_, fun hlt => ?_⟩
  · have h64 : t < 64 := by simp at hlt; omega
    generalize hv : rns l h t = v at *
    have i0 : ∀ K, ixa 8 1 (.pointer (some ⟨g7, 0, none⟩)) (.int .i64 0) K = K (.pointer (some ⟨g7, 0, none⟩)) := fun K => ixa_l .i64 0 (by decide) (by decide) K
    have i1 : ∀ K, ixa 8 1 (.pointer (some ⟨g7, 0, none⟩)) (.int .i64 1) K = K (.pointer (some ⟨g7, 1, none⟩)) := fun K => ixa_l .i64 1 (by decide) (by decide) K
    have i2 : ∀ K, ixa 8 1 (.pointer (some ⟨g7, 0, none⟩)) (.int .i64 2) K = K (.pointer (some ⟨g7, 2, none⟩)) := fun K => ixa_l .i64 2 (by decide) (by decide) K
    have i3 : ∀ K, ixa 8 1 (.pointer (some ⟨g7, 0, none⟩)) (.int .i64 3) K = K (.pointer (some ⟨g7, 3, none⟩)) := fun K => ixa_l .i64 3 (by decide) (by decide) K
    have i4 : ∀ K, ixa 8 1 (.pointer (some ⟨g7, 0, none⟩)) (.int .i64 4) K = K (.pointer (some ⟨g7, 4, none⟩)) := fun K => ixa_l .i64 4 (by decide) (by decide) K
    have i5 : ∀ K, ixa 8 1 (.pointer (some ⟨g7, 0, none⟩)) (.int .i64 5) K = K (.pointer (some ⟨g7, 5, none⟩)) := fun K => ixa_l .i64 5 (by decide) (by decide) K
    have i6 : ∀ K, ixa 8 1 (.pointer (some ⟨g7, 0, none⟩)) (.int .i64 6) K = K (.pointer (some ⟨g7, 6, none⟩)) := fun K => ixa_l .i64 6 (by decide) (by decide) K
    have i7 : ∀ K, ixa 8 1 (.pointer (some ⟨g7, 0, none⟩)) (.int .i64 7) K = K (.pointer (some ⟨g7, 7, none⟩)) := fun K => ixa_l .i64 7 (by decide) (by decide) K
    rw [i4, ld_w hs6.blk (by omega), i0, ld_w hs6.blk (by omega)]
    refine drH_s hs6 fun w12 hs7 _ => ?_
    have hld : ∀ i, i < 8 → ∀ K, ld1 (.pointer (some ⟨g7, i, none⟩)) w12.heap K = K (wv (v.getD i 0)) := fun i hi K => ld_w hs7.blk (by omega) K
    simp only [rdS_ld1, rdS_rdP, i7, i5, i6, hld 7 (by decide), hld 5 (by decide), hld 6 (by decide), wv_and, wv_not, wv_xor]
    rw [ixa_w .i64 h64, ld_w (Sep.p1 hs7).blk (by omega), ixa_w .i64 h64, ld_w (Sep.p2 hs7).blk (by omega)]
    refine efS_i (cal_i (turned_spec 6 6 rfl (by decide)) ?_)
    rintro _ _ ⟨rfl, rfl⟩
    refine ⟨rfl, efS_i (cal_i (turned_spec 11 11 rfl (by decide)) ?_)⟩
    rintro _ _ ⟨rfl, rfl⟩
    rw [wv_xor]
    refine ⟨rfl, efS_i (cal_i (turned_spec 25 25 rfl (by decide)) ?_)⟩
    rintro _ _ ⟨rfl, rfl⟩
    rw [wv_xor, wv_add, wv_add, wv_add, wv_add]
    refine ⟨rfl, drH_s hs7 fun w13 hs8 _ => ?_⟩
    have hld : ∀ i, i < 8 → ∀ K, ld1 (.pointer (some ⟨g7, i, none⟩)) w13.heap K = K (wv (v.getD i 0)) := fun i hi K => ld_w hs8.blk (by omega) K
    simp only [rdS_ld1, i1, i2, hld 1 (by decide), hld 2 (by decide), wv_and, wv_xor]
    refine efS_i (cal_i (turned_spec 2 2 rfl (by decide)) ?_)
    rintro _ _ ⟨rfl, rfl⟩
    refine ⟨rfl, efS_i (cal_i (turned_spec 13 13 rfl (by decide)) ?_)⟩
    rintro _ _ ⟨rfl, rfl⟩
    rw [wv_xor]
    refine ⟨rfl, efS_i (cal_i (turned_spec 22 22 rfl (by decide)) ?_)⟩
    rintro _ _ ⟨rfl, rfl⟩
    refine ⟨rfl, ?_⟩
    simp only [wv_xor, wv_add, i0, i3, i4, hld 0 (by decide), hld 1 (by decide), hld 2 (by decide), hld 3 (by decide), hld 4 (by decide), hld 5 (by decide), hld 6 (by decide), B_a8]
    refine stN_w hs8 (by omega) rfl fun w14 hs9 => ?_
    rw [wi64 (by omega) (by omega)]
    refine ⟨⟨t + 1, by simp, by omega, ?_⟩, by simp [RowKit.intOf]; omega⟩
    rw [rns, hv]
    exact hs9
  · have h64 : t = 64 := by simp at hlt; omega
    subst h64
    generalize hv : rns l h 64 = v at *
    refine ⟨fun a w' => ∃ i : Nat, a = .int .i64 i ∧ i ≤ 8 ∧ Sep w w' [wa g2 (hz h v i) T_a8_uint32, wa g7 v T_a8_uint32, wa g4 (List.replicate 8 0) T_a8_uint32], fun z _ => (8 - RowKit.intOf z).toNat, ⟨0, rfl, by omega, by rw [hz_zero]; exact hs6.d1.d1.p2⟩, ?_⟩
    rintro _ w12 ⟨i, rfl, hi, hs7⟩ -
    simp only [fx, Nat.reduceAdd, forall_const]
    have hzl := hz_len hh hvl hi
    rw [cnd_bool]
    refine ⟨fun hlt => ?_, fun hlt => ?_⟩
    · have h8 : i < 8 := by simp at hlt; omega
      refine drH_s hs7 fun w13 hs8 _ => ?_
      simp only [rdS_ld1]
      rw [ixa_w .i64 h8, ld_w hs8.blk (by omega), ixa_w .i64 h8, ld_w (Sep.p1 hs8).blk (by omega), wv_add, ixa_w .i64 h8, hz_get hh hvl h8]
      refine efC_st1 (st_w hs8 (by omega) _ fun w14 hs9 => ?_)
      rw [wi64 (by omega) (by omega)]
      rw [hz_step hh hvl h8] at hs9
      exact ⟨⟨i + 1, by simp, by omega, hs9⟩, by simp [RowKit.intOf]; omega⟩
    · have h8 : i = 8 := by simp at hlt; omega
      subst h8
      rw [ldN_w hs7.blk hzl]
      refine stN_w hs7.p2 (by simp) hzl fun w13 hs8 => ?_
      rw [ldN_w hs8.blk hzl]
      refine hR _ _ ⟨?_, hs8.fr0⟩
      rw [hz_end hh hvl, mixM, hv]
end
end Go.Fx
set_option linter.unusedVariables false
set_option linter.unusedSimpArgs false
namespace Go.Fx
section
variable {w0 w : World} {b s : Value} {l m : List UInt8} {h : List W32} {As : List Asn}
/-- The bytes of a number, one at a time. -/
theorem be8_byte (v i : Nat) (hi : i < 8) (hv : v < 18446744073709551616) : cvi .u8 (.int .u64 ((v / 256 ^ (7 - i) : Nat) : Int)) = fun K => K (bv (UInt8.ofNat (v / 256 ^ (7 - i)))) := by
  funext K
  rw [cvi_int, bv_of _ (Int.natCast_nonneg _), Int.toNat_natCast]
theorem be_get (v : Nat) : ∀ n i, i < n → (be n v)[i]? = some (UInt8.ofNat (v / 256 ^ (n - 1 - i)))
  | n + 1, 0, _ => by rw [be_cons]; simp
  | n + 1, i + 1, h => by
    rw [be_cons, List.getElem?_cons_succ, be_get v n i (by omega)]
    congr 4
    omega
theorem be_take (v n i : Nat) (hi : i < n) : (be n v).take (i + 1) = (be n v).take i ++ [UInt8.ofNat (v / 256 ^ (n - 1 - i))] := by
  rw [List.take_add_one, be_get v n i hi]
  rfl
theorem shr56 (v i : Nat) (hi : i < 8) (K : Value → Prop) : sh .shr (.int .u64 (v : Int)) (.int .u64 ((56 - 8 * i : Nat) : Int)) K = K (.int .u64 ((v / 256 ^ (7 - i) : Nat) : Int)) := by
  rw [sh_shr _ _ _ _ _ (by omega)]
  have h1 : min (((56 - 8 * i : Nat) : Int)).toNat IntKind.u64.bits = 8 * (7 - i) := by show min _ 64 = _; omega
  have h2 : (2 : Int) ^ (8 * (7 - i)) = ((256 ^ (7 - i) : Nat) : Int) := by
    rw [Int.pow_mul]
    simp
  rw [h1, h2, Int.ofNat_fdiv]
theorem padded_spec (hb : RdB w.heap b l) (hl : l.length ≤ 100000) : cal P f_ref02_padded [b] w fun r w' => Sep w w' [ownB r (padT l l.length)] := by
  refine s_ref02_padded fun R hR => ?_
  unfold c_ref02_padded
  refine appB_s S_sl_uint8 U_sl_uint8 (by simp) (Sep.start w).nil hb (by simp; omega) fun v1 w1 hs1 => ?_
  rw [List.nil_append] at hs1
  refine app0 128 (.inr rfl) hs1 (by omega) fun v2 w2 hs2 => ?_
  rw [if_neg (by decide)] at hs2
  refine ⟨fun a w' => ∃ j : Nat, j ≤ zer (l.length + 1) ∧ Sep w w' [ownB a (l ++ [128] ++ List.replicate j 0)], fun a _ => match a with
    | .slice _ n _ => (l.length + 1 + zer (l.length + 1)) - n
    | _ => 0, ⟨0, by omega, by simpa using hs2⟩, ?_⟩
  rintro v3 w3 ⟨j, hj, hs3⟩ -
  have hz := zer_le (l.length + 1)
  obtain ⟨a3, c3, rfl⟩ := Sep.sl hs3
  have hlen : (l ++ [128] ++ List.replicate j 0).length = l.length + 1 + j := by simp; omega
  simp only [lenS_mk, hlen]
  rw [bi_rem .i64 _ _ _ (by decide), show (64 : Int) = ((64 : Nat) : Int) from rfl, tmodn, bi_neq, cnd_bool]
  refine ⟨fun h => ?_, fun h => ?_⟩
  · have h56 : (l.length + 1 + j) % 64 ≠ 56 := by simp at h; omega
    have hjz : j < zer (l.length + 1) := by
      rcases Nat.lt_or_ge j (zer (l.length + 1)) with h' | h'
      · exact h'
      · have : j = zer (l.length + 1) := by omega
        rw [this, zer_eq] at h56
        exact absurd rfl h56
    rw [← hlen]
    refine app0 0 (.inl rfl) hs3 (by rw [hlen]; omega) fun v4 w4 hs4 => ?_
    rw [if_pos rfl] at hs4
    have e : l ++ [128] ++ List.replicate j 0 ++ [0] = l ++ [128] ++ List.replicate (j + 1) 0 := by rw [List.replicate_succ', List.append_assoc]
    rw [e] at hs4
    obtain ⟨a4, c4, rfl⟩ := Sep.sl hs4
    refine ⟨⟨j + 1, by omega, hs4⟩, ?_⟩
    simp
    omega
  · have h56 : (l.length + 1 + j) % 64 = 56 := by simp at h; omega
    have hjz : j = zer (l.length + 1) := by
      rcases Nat.lt_or_ge j (zer (l.length + 1)) with h' | h'
      · exact absurd h56 (zer_lt h')
      · omega
    rw [← hlen, hb.len]
    rw [cvi_int, wu64n, Nat.mod_eq_of_lt (by omega), bi_mul, show ((l.length : Int) * 8) = ((l.length * 8 : Nat) : Int) by simp, wu64n]
    generalize hv : l.length * 8 % 18446744073709551616 = v
    have hvb : v < 18446744073709551616 := by omega
    have hv8 : be 8 (l.length * 8 % 18446744073709551616) = be 8 v := by rw [hv]
    refine ⟨fun a c w' => ∃ i : Nat, c = .int .i64 i ∧ i ≤ 8 ∧ Sep w w' [ownB a (l ++ [128] ++ List.replicate j 0 ++ (be 8 v).take i)], fun _ c _ => (8 - RowKit.intOf c).toNat, ⟨0, rfl, by omega, by simpa using hs3⟩, ?_⟩
    rintro v5 _ w5 ⟨i, rfl, hi, hs5⟩ -
    simp only [fx, Nat.reduceAdd, forall_const]
    rw [cnd_bool]
    refine ⟨fun h => ?_, fun h => ?_⟩
    · have h8 : i < 8 := by simp at h; omega
      have e1 : IntKind.u64.wrap (IntKind.i64.wrap (56 - IntKind.i64.wrap (8 * (i : Int)))) = ((56 - 8 * i : Nat) : Int) := by
        rw [wi64 (x := 8 * (i : Int)) (by omega) (by omega), wi64 (by omega) (by omega), wu64i (by omega) (by omega)]
        omega
      rw [e1, shr56 v i h8, be8_byte v i h8 hvb]
      refine app1 hs5 (by simp [be_length]; omega) fun v6 w6 hs6 => ?_
      rw [wi64 (by omega) (by omega)]
      rw [List.append_assoc, ← be_take v 8 i h8] at hs6
      exact ⟨⟨i + 1, by simp, by omega, hs6⟩, by simp [RowKit.intOf]; omega⟩
    · have h8 : i = 8 := by simp at h; omega
      subst h8
      rw [List.take_of_length_le (by rw [be_length]; omega)] at hs5
      refine hR _ _ ?_
      rw [padT, hv8, ← hjz]
      exact hs5
end
end Go.Fx
set_option linter.unusedVariables false
set_option linter.unusedSimpArgs false
namespace Go.Fx
theorem wOut_get {h : List W32} {i : Nat} (hi : i < 4 * h.length) : (h.flatMap wOut)[i]? = some (UInt8.ofNat ((h.getD (i / 4) 0) >>> (24 - 8 * (i % 4))).toNat) := by
  induction h generalizing i with
  | nil => simp at hi
  | cons x h ih =>
    rw [List.flatMap_cons]
    by_cases h4 : i < 4
    · rw [List.getElem?_append_left (by simp [wOut]; omega)]
      have : i = 0 ∨ i = 1 ∨ i = 2 ∨ i = 3 := by omega
      rcases this with rfl | rfl | rfl | rfl <;> simp [wOut]
    · have hl : (wOut x).length = 4 := rfl
      rw [List.getElem?_append_right (by omega), hl, ih (by simp at hi; omega)]
      have e1 : i / 4 = (i - 4) / 4 + 1 := by omega
      have e2 : (i - 4) % 4 = i % 4 := by omega
      rw [e1, e2]
      rfl
section
variable {w0 w : World} {b : Value} {l : List UInt8} {As : List Asn}
theorem B_first (K : Value → Prop) : rdP P (Instr.build T_a8_uint32 #[(0, (Value.int IntKind.u32 1779033703)), (1, (Value.int IntKind.u32 3144134277)), (2, (Value.int IntKind.u32 1013904242)), (3, (Value.int IntKind.u32 2773480762)), (4, (Value.int IntKind.u32 1359893119)), (5, (Value.int IntKind.u32 2600822924)), (6, (Value.int IntKind.u32 528734635)), (7, (Value.int IntKind.u32 1541459225))]) w K = K (.agg (wvs firstL).toArray) := rdP_eq (by kernel_rfl) K
theorem rSum_spec (hb : RdB w.heap b l) (hl : l.length ≤ 100000) : cal P f_ref02_Sum [b] w fun r w' => r = .agg (Rdr.cells (rVec 32) (shaM l)).toArray ∧ Fr [] w w' := by
  refine s_ref02_Sum fun R hR => ?_
  unfold c_ref02_Sum
  refine alloc_s (Sep.start w) (A_api_ID w) fun g2 w1 hs => ?_
  refine cal_i (padded_spec (hs.rdB hb) hl) ?_
  rintro v9 w2 hs2
  replace hs2 := hs.join hs2
  rw [B_first]
  refine alloc_s hs2 (A_a8 w2) fun g4 w3 hs3 => ?_
  refine stN_w hs3 (by simp) rfl fun w4 hs4 => ?_
  obtain ⟨a9, c9, rfl, hc9⟩ := Sep.form hs4.p1
  have hmod := padT_len l l.length
  generalize hpad : padT l l.length = pad at *
  have hlp : pad.length ≤ 200000 := by
    have := zer_le (l.length + 1)
    rw [← hpad, padT]
    simp [be_length]
    omega
  refine ⟨fun a w' => ∃ (i : Nat) (h : List W32), a = .int .i64 i ∧ i ≤ pad.length ∧ i % 64 = 0 ∧ h.length = 8 ∧ foldM firstL pad = foldM h (pad.drop i) ∧ Sep w w' [wa g4 h T_a8_uint32, ownB (.slice a9 pad.length c9) pad, blk g2 (Rdr.cells (rVec 32) (vz 32)).toArray T_api_ID],
    fun z _ => (pad.length - RowKit.intOf z).toNat, ⟨0, firstL, rfl, by omega, rfl, rfl, rfl, hs4⟩, ?_⟩
  rintro _ w5 ⟨i, h, rfl, hi, him, hh, hfold, hs5⟩ -
  simp only [fx, Nat.reduceAdd, forall_const]
  rw [cnd_bool]
  refine ⟨fun hlt => ?_, fun hlt => ?_⟩
  · have hlt : i < pad.length := by simp at hlt; omega
    have h64 : i + 64 ≤ pad.length := by omega
    refine drH_s hs5 fun w6 hs6 _ => ?_
    have e : IntKind.i64.wrap ((i : Int) + 64) = ((i + 64 : Nat) : Int) := by rw [wi64 (by omega) (by omega)]; omega
    simp only [rdS_ldN, e]
    rw [ldN_w hs6.blk hh, slc_mid (by omega) (by omega), Nat.add_sub_cancel_left]
    have hrd := (((Sep.p1 hs6).rd).drop (k := i) (by omega) hc9 (c9 - i)).take (k := 64) (by omega) (c9 - i)
    refine efC_cal (cal_i (goes_spec hrd (by simp; omega) hh) ?_)
    rintro _ w7 ⟨rfl, hf7⟩
    have hs7 := hs6.old hf7
    have hml := mixM_len ((pad.drop i).take 64) hh
    refine efC_stN (stN_w hs7 hh hml fun w8 hs8 => ?_)
    refine ⟨⟨i + 64, _, rfl, by omega, by omega, hml, ?_, hs8⟩, by simp [RowKit.intOf]; omega⟩
    rw [hfold, foldM_step (by simp; omega), List.drop_drop]
  · have hge : i = pad.length := by simp at hlt; omega
    subst hge
    rw [List.drop_length, foldM_end (h := h) (l := []) (by simp)] at hfold
    have hsha : shaL l = h := by rw [shaL, hpad, hfold]
    obtain ⟨o, ho⟩ : ∃ o, o = h.flatMap wOut := ⟨_, rfl⟩
    have hol : o.length = 32 := by rw [ho, wOut_len, hh]
    refine alloc_s hs5 (A_api_ID w5) fun g6 w6 hs6 => ?_
    refine ⟨fun a w' => ∃ i : Nat, a = .int .i64 i ∧ i ≤ 32 ∧ Sep w w' [blk g6 (bvs (part o i)).toArray T_api_ID, wa g4 h T_a8_uint32, blk g2 (Rdr.cells (rVec 32) (vz 32)).toArray T_api_ID],
      fun z _ => (32 - RowKit.intOf z).toNat, ⟨0, rfl, by omega, ?_⟩, ?_⟩
    · have e0 : bvs (part o 0) = Rdr.cells (rVec 32) (vz 32) := by rw [part_zero, hol]; rfl
      rw [e0]
      exact hs6.d2
    rintro _ w7 ⟨i, rfl, hi, hs7⟩ -
    simp only [fx, Nat.reduceAdd, forall_const]
    rw [cnd_bool]
    refine ⟨fun hlt => ?_, fun hlt => ?_⟩
    · have h32 : i < 32 := by simp at hlt; omega
      rw [bi_quo .i64 _ _ _ (by decide), show (4 : Int) = ((4 : Nat) : Int) from rfl, tdivn, wi64 (by omega) (by omega), ixa_w .i64 (by omega), ld_w (Sep.p1 hs7).blk (by omega), bi_rem .i64 _ _ _ (by decide), tmodn]
      have e1 : IntKind.u64.wrap (IntKind.i64.wrap (24 - IntKind.i64.wrap (8 * ((i % 4 : Nat) : Int)))) = ((24 - 8 * (i % 4) : Nat) : Int) := by
        rw [wi64 (x := 8 * ((i % 4 : Nat) : Int)) (by omega) (by omega), wi64 (by omega) (by omega), wu64i (by omega) (by omega)]
        omega
      simp only [bi_mul, bi_sub, cvi_int, e1]
      rw [wv_shr _ _ .u64 (by omega), w_b, ixa_w .i64 h32]
      refine st_b hs7 (by rw [ho]; exact wOut_get (by omega)) fun w8 hs8 => ?_
      rw [wi64 (by omega) (by omega)]
      exact ⟨⟨i + 1, by simp, by omega, hs8⟩, by simp [RowKit.intOf]; omega⟩
    · have h32 : i = 32 := by simp at hlt; omega
      subst h32
      have e2 : bvs (part o 32) = Rdr.cells (rVec 32) (shaM l) := by
        have hsm : (shaM l).1 = o := by rw [ho, ← hsha]; rfl
        show bvs (part o 32) = bvs (shaM l).1
        rw [hsm, ← hol, part_all]
      rw [e2] at hs7
      simp only [L_api_ID hs7.blk]
      refine St_api_ID hs7.p2 fun w8 hs8 => ?_
      simp only [L_api_ID hs8.blk]
      exact hR _ _ ⟨rfl, hs8.fr0⟩
end
end Go.Fx
set_option linter.unusedVariables false
set_option linter.unusedSimpArgs false
namespace Go.Fx
/-- 'append(nil, make([]byte, n)...)'. -/
theorem appMade {P : Program} {t tx ty E : Nat} {w0 w : World} {As : List Asn} {n : Nat} {K : Value → World → Prop} (hT : SlT P t E 1 1) (hx : P.underlying tx = some (.int .i64)) (hs : Sep w0 w As) (h0 : 0 < n) (hn : n ≤ 1000000)
    (h : ∀ g c w', Sep w0 w' (ownB (.slice (some ⟨g, 0, none⟩) 0 c) [] :: As) → K (.slice (some ⟨g, 0, none⟩) n c) w') : efP P (Builtin.append_ #[t, tx] ty #[.slice none 0 0, .int .i64 n]) w K := by
  obtain ⟨i, z, hi, hsz, hby, hz, hzc⟩ := slT_info hT
  have hund := hT.und
  have hzs : z.cells.size = 1 := by rw [hzc]; exact hT.zcs
  have h48 : ¬ (281474976710656 < Builtin.nextslicecap n 0 * i.bytes) := by
    rw [hby]; have := growslice_fits (old := 0) (need := n) (bytes := 1) h0 (by omega); omega
  have hold : Cel w.drew.heap (.slice none 0 0) 1 0 [] := ⟨none, 0, rfl, rfl, .inl rfl⟩
  have holdr := hold.load (P := P)
  have hge := grownCap_ge w n 0 E
  refine ⟨.slice (some ⟨w.heap.size, 0, none⟩) n (grownCap w n 0 E), w.drew.alloc (.cells (Builtin.zeroCells z.cells n ++ Builtin.zeroCells z.cells (grownCap w n 0 E - n)) E), ?_, h _ _ _ (hs.new (((Fr.refl [] w).drew _).trans (fr_alloc _ _) (by simp) (by simp)) (B := ownB _ _) (F' := [w.heap.size]) ⟨rfl, .inr ⟨w.heap.size, 0, _, _, E, rfl, Nat.zero_le _, alloc_new w.drew _, ?_, by simp [bvs], rfl⟩⟩ (by simp))⟩
  · have hw : IntKind.i64.wrap (n : Int) = n := wi64 (by omega) (by omega)
    simp only [Builtin.append_, Sem.run_bind, Sem.run_pure, List.getElem?_toArray, List.getElem?_cons_zero, List.getElem?_cons_succ, run_underlying hund, Result.andThen_ok, run_sizeOf hT.siz, run_underlying hx]
    have ha : Sem.run P (asIntOf (.int .i64 (n : Int))) w = .ok (.i64, (n : Int)) w := rfl
    have h1 : ¬ ((n : Int) < 0) := by omega
    have h2 : ¬ (281474976710656 < (n : Int)) := by omega
    have h3 : ¬ n = 0 := by omega
    have h4 : ¬ (9223372036854775807 < (n : Int)) := by omega
    have h48' : ¬ (281474976710656 < Builtin.nextslicecap n 0) := by rw [hby, Nat.mul_one] at h48; exact h48
    simp [asInt, ha, hw, typeInfo, hi, hby, h1, h2, h3, h4, h48', zeroValue, hz, Question.forced, holdr, newRow, grownCap]
  · simp only [Array.size_append, size_zeroCells, hzs]
    omega
theorem cap_sl {P : Program} {t t' e : TypeId} {w : World} {a : Option Addr} {n c : Nat} (hu : P.underlying t = some (.slice e)) (K : Value → Prop) : rdP P (Builtin.cap_ #[t] t' #[.slice a n c]) w K = K (.int .i64 c) := by
  refine rdP_eq ?_ K
  simp [Builtin.cap_, run_underlying hu, goInt]
section
variable {w0 w : World} {b s : Value} {l m : List UInt8} {As : List Asn}
theorem Grow_spec (n : Nat) (hn : n ≤ 1000000) : cal P f_slices_Grow_byte_byte [.slice none 0 0, .int .i64 n] w fun r w' => Sep w w' [ownB r []] := by
  refine s_slices_Grow_byte_byte fun R hR => ?_
  unfold c_slices_Grow_byte_byte
  have e0 : decide ((n : Int) < 0) = false := by simp
  simp only [fx, Nat.reduceAdd, forall_const, e0, cap_sl U_sl_uint8, Int.natCast_zero, Int.sub_zero]
  rw [wi64 (x := 0) (by decide) (by decide), Int.sub_zero, wi64 (by omega) (by omega), cnd_bool]
  refine ⟨fun h => ?_, fun h => ?_⟩
  · have h0 : 0 < n := by simp at h; omega
    rw [show (Value.int .i64 0) = .int .i64 ((0 : Nat) : Int) from rfl, slc_to (Nat.le_refl 0)]
    refine appMade S_sl_uint8 U_int (Sep.start w) h0 hn fun g c w1 hs => ?_
    rw [slc_to (Nat.zero_le _)]
    exact hR _ _ hs
  · exact hR _ _ (Sep.start w).nil
end
end Go.Fx
set_option linter.unusedVariables false
set_option linter.unusedSimpArgs false
namespace Go.Fx
section
variable {w0 w : World} {v s0 s1 : Value} {l m : List UInt8} {As : List Asn}
theorem Concat_spec (hv : Cel w.heap v 1 2 [s0, s1]) (h0 : RdB w.heap s0 l) (h1 : RdB w.heap s1 m) (hl : l.length + m.length ≤ 1000000) : cal P f_slices_Concat_byte_byte [v] w fun r w' => Sep w w' [ownB r (l ++ m)] := by
  refine s_slices_Concat_byte_byte fun R hR => ?_
  unfold c_slices_Concat_byte_byte
  obtain ⟨a, c, hva, _⟩ := id hv
  have hlen : ∀ K, lenS v K = K (.int .i64 ((2 : Nat) : Int)) := fun K => by rw [hva, lenS_mk]
  obtain ⟨f, hf⟩ : ∃ f : Nat → Nat, f = fun i => if i = 0 then 0 else if i = 1 then l.length else l.length + m.length := ⟨_, rfl⟩
  have hf0 : f 0 = 0 := by rw [hf]; rfl
  have hf1 : f 1 = l.length := by rw [hf]; rfl
  have hf2 : f 2 = l.length + m.length := by rw [hf]; rfl
  simp only [hlen]
  refine ⟨fun x y w' => ∃ i : Nat, x = .int .i64 (f i : Nat) ∧ y = .int .i64 i ∧ i ≤ 2 ∧ w' = w, fun _ y _ => (2 - RowKit.intOf y).toNat, ⟨0, by rw [hf0]; rfl, rfl, by omega, rfl⟩, ?_⟩
  rintro _ _ w1 ⟨i, rfl, rfl, hi, rfl⟩ -
  simp only [fx, Nat.reduceAdd, forall_const]
  rw [cnd_bool]
  refine ⟨fun h => ?_, fun h => ?_⟩
  · have hlt : i = 0 ∨ i = 1 := by simp at h; omega
    refine ⟨fun t w' => t = .int .i64 (f (i + 1) : Nat) ∧ w' = w1, ?_, ?_⟩
    · rcases hlt with rfl | rfl
      · refine ldx hv (j := 0) (u := s0) rfl ?_
        rw [h0.len]
        simp only [fx, Nat.reduceAdd, forall_const]
        rw [hf0, hf1, wi64 (by omega) (by omega), decide_eq_false (by omega), cnd_false]
        exact ⟨by simp, trivial⟩
      · refine ldx hv (j := 1) (u := s1) rfl ?_
        rw [h1.len]
        simp only [fx, Nat.reduceAdd, forall_const]
        rw [hf1, hf2, wi64 (by omega) (by omega), decide_eq_false (by omega), cnd_false]
        exact ⟨by simp, trivial⟩
    · rintro _ _ ⟨rfl, rfl⟩ -
      rw [wi64 (by omega) (by omega)]
      exact ⟨⟨i + 1, rfl, by simp, by omega, rfl⟩, by simp [RowKit.intOf]; omega⟩
  · have h2 : i = 2 := by simp at h; omega
    subst h2
    rw [hf2]
    refine cal_i (Grow_spec (l.length + m.length) hl) ?_
    rintro v2 w2 hs2
    obtain ⟨g, hg⟩ : ∃ g : Nat → List UInt8, g = fun i => if i = 0 then [] else if i = 1 then l else l ++ m := ⟨_, rfl⟩
    have hg0 : g 0 = [] := by rw [hg]; rfl
    have hg1 : g 1 = l := by rw [hg]; rfl
    have hg2 : g 2 = l ++ m := by rw [hg]; rfl
    refine ⟨fun x y w' => ∃ i : Nat, y = .int .i64 i ∧ i ≤ 2 ∧ Sep w1 w' [ownB x (g i)], fun _ y _ => (2 - RowKit.intOf y).toNat, ⟨0, rfl, by omega, by rw [hg0]; exact hs2⟩, ?_⟩
    rintro v3 _ w3 ⟨i, rfl, hi, hs3⟩ -
    simp only [fx, Nat.reduceAdd, forall_const]
    rw [cnd_bool]
    refine ⟨fun h => ?_, fun h => ?_⟩
    · have hlt : i = 0 ∨ i = 1 := by simp at h; omega
      have hv3 : Cel w3.heap v 1 2 [s0, s1] := hv.fr hs3.fr0 (off_nil _)
      rcases hlt with rfl | rfl
      · refine ldx hv3 (j := 0) (u := s0) rfl ?_
        rw [hg0] at hs3
        refine appB_s S_sl_uint8 U_sl_uint8 (by simp) hs3 (hs3.rdB h0) (by simp; omega) fun v4 w4 hs4 => ?_
        rw [wi64 (by omega) (by omega)]
        exact ⟨⟨1, by simp, by omega, by rw [hg1]; exact hs4⟩, by simp [RowKit.intOf]⟩
      · refine ldx hv3 (j := 1) (u := s1) rfl ?_
        rw [hg1] at hs3
        refine appB_s S_sl_uint8 U_sl_uint8 (by simp) hs3 (hs3.rdB h1) (by omega) fun v4 w4 hs4 => ?_
        rw [wi64 (by omega) (by omega)]
        exact ⟨⟨2, by simp, by omega, by rw [hg2]; exact hs4⟩, by simp [RowKit.intOf]⟩
    · have h2 : i = 2 := by simp at h; omega
      subst h2
      rw [hg2] at hs3
      exact hR _ _ hs3
end
end Go.Fx
set_option linter.unusedVariables false
set_option linter.unusedSimpArgs false
namespace Go.Fx
abbrev VW (n : Nat) := {l : List W32 // l.length = n}
def rW (n : Nat) : Rdr (VW n) where
  size := n
  cells l := wvs l.1
  ok _ _ := True
  len l := by simp [wvs, l.2]
  one _ := wvs_one _
  fr h _ := h
abbrev Q_St := Rdr.pair (rW 8) (Rdr.pair qv (Rdr.pair (rInt .i64) rBool))
abbrev st (g : Nat) (h : VW 8) (s : Value) (n : Int) : Asn := blk g (Rdr.cells Q_St (h, s, n, true)).toArray T_sha_State
def first8 : VW 8 := ⟨firstL, rfl⟩
section
variable {w0 w : World} {v b s : Value} {l r : List UInt8} {As : List Asn} {g : Nat} {h : VW 8} {n : Int}
theorem first_spec : cal P f_sha_first [] w fun r w' => r = .agg (wvs firstL).toArray ∧ Fr [] w w' := by
  refine s_sha_first fun R hR => ?_
  unfold c_sha_first
  refine alloc_s (Sep.start w) (A_a8 w) fun g w1 hs => ?_
  rw [B_first]
  refine stN_w hs (by simp) rfl fun w2 hs => ?_
  rw [ldN_w (n := 8) hs.blk rfl]
  exact hR _ _ ⟨rfl, hs.fr0⟩
theorem B_St (K : Value → Prop) : rdP P (Instr.build T_sha_State #[(0, .agg (wvs firstL).toArray), (3, .bool true)]) w K = K (.agg (Rdr.cells Q_St (first8, .slice none 0 0, 0, true)).toArray) := rdP_eq (by kernel_rfl) K
theorem New_spec : cal P f_sha_New [] w fun r w' => ∃ g, r = .pointer (some ⟨g, 0, none⟩) ∧ Sep w w' [st g first8 (.slice none 0 0) 0] := by
  refine s_sha_New fun R hR => ?_
  unfold c_sha_New
  refine cal_i first_spec ?_
  rintro _ w1 ⟨rfl, hf1⟩
  rw [B_St]
  refine bx_s ((Sep.start w).old hf1) fun g w2 hs => ?_
  exact hR _ _ ⟨g, rfl, hs⟩
theorem none_spec (hs : Sep w0 w (st g h s n :: As)) : cal P f_sha_State_none [.pointer (some ⟨g, 0, none⟩)] w fun r w' => r = .bool false ∧ w = w' := by
  refine s_sha_State_none fun R hR => ?_
  unfold c_sha_State_none
  simp only [fx, Nat.reduceAdd, forall_const]
  have hb := Fld.ldB (r := Q_St) (Fld.snd (Fld.snd (Fld.snd Fld.self))) hs.blk
  refine jn1_dup ?_
  rw [show (Value.pointer (some ⟨g, 10, none⟩)) = .pointer (some ⟨g, 8 + (1 + (1 + 0)), none⟩) from rfl]
  refine (hb _).mpr ?_
  simp only [fx, Nat.reduceAdd, forall_const]
  exact hR _ _ ⟨rfl, rfl⟩
/-- A part of an owned slice, to its end. -/
def Rest (v : Value) (l : List UInt8) (u : Value) (m : List UInt8) : Prop := ∃ a n c, u = .slice a n c ∧ n = m.length ∧ n ≤ c ∧ ∀ z : World, RdB z.heap v l → RdB z.heap u m
theorem Rest.start {a : Option Addr} {c : Nat} (hc : l.length ≤ c) : Rest (.slice a l.length c) l (.slice a l.length c) l := ⟨a, _, c, rfl, rfl, hc, fun _ h => h⟩
theorem Rest.to {u : Value} {m : List UInt8} (hr : Rest v l u m) (h64 : 64 ≤ m.length) (K : Value → Prop) (h : ∀ x, (∀ z : World, RdB z.heap v l → RdB z.heap x (m.take 64)) → K x) : slc 1 u none (some (.int .i64 64)) K := by
  obtain ⟨a, n, c, rfl, rfl, hc, hx⟩ := hr
  have := slc_to (size := 1) (n := m.length) (a := a) (k := .i64) (show 64 ≤ c by omega) K
  rw [show (Value.int .i64 64) = .int .i64 ((64 : Nat) : Int) from rfl, this]
  exact h _ fun z hz => (hx z hz).take h64 c
theorem Rest.from {u : Value} {m : List UInt8} (hr : Rest v l u m) (h64 : 64 ≤ m.length) (K : Value → Prop) (h : ∀ x, Rest v l x (m.drop 64) → K x) : slc 1 u (some (.int .i64 64)) none K := by
  obtain ⟨a, n, c, rfl, rfl, hc, hx⟩ := hr
  have := slc_from (size := 1) (c := c) (a := a) (k := .i64) h64 K
  rw [show (Value.int .i64 64) = .int .i64 ((64 : Nat) : Int) from rfl, this]
  exact h _ ⟨_, _, _, rfl, by simp, by omega, fun z hz => (hx z hz).drop h64 hc (c - 64)⟩
theorem Rest.len {u : Value} {m : List UInt8} (hr : Rest v l u m) (K : Value → Prop) : lenS u K = K (.int .i64 m.length) := by
  obtain ⟨a, n, c, rfl, rfl, hc, hx⟩ := hr
  exact lenS_mk a _ c K
end
end Go.Fx
set_option linter.unusedVariables false
set_option linter.unusedSimpArgs false
namespace Go.Fx
theorem foldM_one {h : List W32} {m : List UInt8} (hm : m.length = 64) : foldM h m = mixM h m := by
  rw [foldM_step (by omega), List.take_of_length_le (by omega), List.drop_of_length_le (by omega), foldM_end (by simp)]
section
variable {w0 w : World} {v b s : Value} {l r : List UInt8} {As : List Asn} {g : Nat} {h : VW 8} {n : Int}
theorem ldS_h {hp : Heap} {t : TypeId} {fr : Nat × Nat} {a} (hg : hp[g]? = some (.cells (Rdr.cells Q_St a).toArray t fr)) (K : Value → Prop) : ldN 8 (.pointer (some ⟨g, 0, none⟩)) hp K = K (.agg (wvs a.1.1).toArray) := Fld.ldN (r := Q_St) (s := rW 8) (Fld.fst Fld.self) hg K
theorem ldS_s {hp : Heap} {t : TypeId} {fr : Nat × Nat} {a} (hg : hp[g]? = some (.cells (Rdr.cells Q_St a).toArray t fr)) (K : Value → Prop) : ld1 (.pointer (some ⟨g, 8, none⟩)) hp K = K a.2.1 := Fld.ld1 (r := Q_St) (Fld.snd (Fld.fst Fld.self)) hg K
theorem ldS_n {hp : Heap} {t : TypeId} {fr : Nat × Nat} {a} (hg : hp[g]? = some (.cells (Rdr.cells Q_St a).toArray t fr)) (K : Value → Prop) : ld1 (.pointer (some ⟨g, 9, none⟩)) hp K = K (.int .i64 a.2.2.1) := Fld.ldI (r := Q_St) (Fld.snd (Fld.snd (Fld.fst Fld.self))) hg K
theorem stS_h {K : World → Prop} (hs : Sep w0 w (st g h s n :: As)) {l' : List W32} (hl : l'.length = 8) (hk : ∀ w', Sep w0 w' (st g ⟨l', hl⟩ s n :: As) → K w') : stN 8 (.pointer (some ⟨g, 0, none⟩)) (.agg (wvs l').toArray) w K :=
  Fld.stN (r := Q_St) (s := rW 8) (Fld.fst Fld.self) (b := ⟨l', hl⟩) hs (wvs_one _) hk
theorem stS_s {K : World → Prop} (hs : Sep w0 w (st g h s n :: As)) {s' : Value} (h1 : s'.oneCell' = true) (hk : ∀ w', Sep w0 w' (st g h s' n :: As) → K w') : st1 (.pointer (some ⟨g, 8, none⟩)) s' w K :=
  Fld.stV (r := Q_St) (s := qv) (Fld.snd (Fld.fst Fld.self)) rfl hs h1 hk
theorem stS_n {K : World → Prop} (hs : Sep w0 w (st g h s n :: As)) {n' : Int} (hk : ∀ w', Sep w0 w' (st g h s n' :: As) → K w') : st1 (.pointer (some ⟨g, 9, none⟩)) (.int .i64 n') w K :=
  Fld.stV (r := Q_St) (s := rInt .i64) (Fld.snd (Fld.snd (Fld.fst Fld.self))) rfl hs rfl hk
theorem Write_spec (hc : Cub w0) (hs : Sep w0 w (st g first8 (.slice none 0 0) 0 :: As)) (hv : Cel w0.heap v 1 1 [b] ∨ ∃ Bs, As = own v 1 1 [b] :: Bs) (hb : RdB w0.heap b l) (hl : l.length ≤ 100000) :
    cal P f_sha_State_Write [.pointer (some ⟨g, 0, none⟩), v] w fun _ w' => ∃ (a r : List UInt8) (h : VW 8) (s : Value), l = a ++ r ∧ a.length % 64 = 0 ∧ r.length < 64 ∧ h.1 = foldM firstL a ∧ Sep w0 w' (st g h s l.length :: ownB s r :: As) := by
  refine s_sha_State_Write fun R hR => ?_
  unfold c_sha_State_Write
  refine cal_i (none_spec hs) ?_
  rintro _ _ ⟨rfl, rfl⟩
  have hcel : ∀ {z : World} {x : Asn}, Sep w0 z (x :: As) → Cel z.heap v 1 1 [b] := fun {z x} hz => by
    rcases hv with hv | ⟨Bs, rfl⟩
    · exact hv.fr hz.fr0 (off_nil _)
    · exact Sep.cel hz.p1
  obtain ⟨a, c, hva, _⟩ := id (hcel hs)
  have hlen : ∀ K, lenS v K = K (.int .i64 ((1 : Nat) : Int)) := fun K => by rw [hva, lenS_mk]
  simp only [fx, Nat.reduceAdd, forall_const, hlen]
  refine ⟨fun x w' => ∃ i : Nat, x = .int .i64 i ∧ i ≤ 1 ∧ (i = 0 → Sep w0 w' (st g first8 (.slice none 0 0) 0 :: As)) ∧ (i = 1 → ∃ (a r : List UInt8) (h : VW 8) (s : Value), l = a ++ r ∧ a.length % 64 = 0 ∧ r.length < 64 ∧ h.1 = foldM firstL a ∧ Sep w0 w' (st g h s l.length :: ownB s r :: As)),
    fun z _ => (1 - RowKit.intOf z).toNat, ⟨0, rfl, by omega, fun _ => hs, fun h => by cases h⟩, ?_⟩
  rintro _ w1 ⟨i, rfl, hi, hi0, hi1⟩ -
  simp only [fx, Nat.reduceAdd, forall_const]
  rw [cnd_bool]
  refine ⟨fun hlt => ?_, fun hlt => ?_⟩
  · have h0 : i = 0 := by simp at hlt; omega
    subst h0
    have hs1 := hi0 rfl
    refine ldx (hcel hs1) (j := 0) (u := b) rfl ?_
    rw [ldS_n hs1.blk, (hs1.rdB hb).len]
    simp only [fx, Nat.reduceAdd, forall_const]
    rw [wi64 (by omega) (by omega)]
    refine stS_n hs1 fun w2 hs2 => ?_
    simp only [fx, Nat.reduceAdd, forall_const, ldS_s hs2.blk]
    have hbs : ∀ (w : World), (Instr.buildSlice T_sl_sl_uint8 2 #[(0, .slice none 0 0), (1, b)]).run P w = .ok (.slice (some ⟨w.heap.size, 0, none⟩) 2 2) (w.alloc (.cells ([.slice none 0 0, b] : List Value).toArray T_sl_uint8)) := by
      obtain ⟨a, c, rfl, _⟩ := hb
      intro w
      kernel_rfl
    refine build_s (cs := [.slice none 0 0, b]) (size := 1) hs2 rfl (hbs _) fun g3 w3 hs3 => ?_
    refine cal_i (Concat_spec (l := []) (m := l) (Sep.cel hs3) ⟨none, 0, rfl, rfl, .inl rfl⟩ (hs3.rdB hb) (by simp; omega)) ?_
    rintro v4 w4 hs4
    rw [List.nil_append] at hs4
    replace hs4 := (hs3.join hs4).d1.p1
    obtain ⟨a4, c4, rfl, hc4⟩ := Sep.form hs4.p1
    refine ⟨fun u w' => ∃ (k : Nat) (h : VW 8), k ≤ l.length ∧ k % 64 = 0 ∧ h.1 = foldM firstL (l.take k) ∧ Rest (.slice a4 l.length c4) l u (l.drop k) ∧ Sep w0 w' (st g h (.slice none 0 0) l.length :: ownB (.slice a4 l.length c4) l :: As), fun u _ => match u with
      | .slice _ n _ => n
      | _ => 0, ⟨0, first8, by omega, rfl, by rw [List.take_zero, foldM_end (by simp)]; rfl, Rest.start hc4, by simpa using hs4⟩, ?_⟩
    rintro u w5 ⟨k, h5, hk, hkm, hh5, hrest, hs5⟩ -
    simp only [hrest.len, List.length_drop]
    rw [bi_geq, cnd_bool]
    refine ⟨fun h => ?_, fun h => ?_⟩
    · have h64 : 64 ≤ (l.drop k).length := by simp at h ⊢; omega
      refine drH_s hs5 fun w6 hs6 _ => ?_
      simp only [fx, Nat.reduceAdd, forall_const, rdS_ldN, ldS_h hs6.blk]
      refine hrest.to h64 _ fun x hx => ?_
      refine efC_cal (cal_i (mixed_spec (hc.fr hs6.fr0) (hx _ (Sep.rd hs6.p1)) (by rw [List.length_take]; omega) h5.2) ?_)
      rintro _ w7 ⟨rfl, hf7⟩
      have hs7 := hs6.old hf7
      refine efC_stN (stS_h hs7 (mixM_len _ h5.2) fun w8 hs8 => ?_)
      refine hrest.from h64 _ fun u' hu' => ?_
      rw [List.drop_drop] at hu'
      have hll : k + 64 ≤ l.length := by simp at h64; omega
      refine ⟨⟨k + 64, _, hll, by omega, ?_, hu', hs8⟩, ?_⟩
      · show mixM h5.1 _ = _
        rw [hh5, List.take_add, foldM_app (by rw [List.length_take]; omega), foldM_one (m := (l.drop k).take 64) (by rw [List.length_take]; omega)]
      · obtain ⟨_, n1, _, rfl, e1, _⟩ := hrest
        obtain ⟨_, n2, _, rfl, e2, _⟩ := hu'
        simp only [List.length_drop] at e1 e2
        simp only []
        omega
    · have h64 : (l.drop k).length < 64 := by simp at h ⊢; omega
      obtain ⟨_, _, _, _, _, _, hx⟩ := id hrest
      refine cal_i (bClone_spec (hx _ (Sep.rd hs5.p1)) (by rw [List.length_drop]; omega)) ?_
      rintro v6 w6 hs6
      replace hs6 := (hs5.join hs6).p1
      refine stS_s hs6 (Sep.one hs6.p1) fun w7 hs7 => ?_
      rw [wi64 (by omega) (by omega)]
      refine ⟨⟨1, by simp, by omega, fun h => (by cases h), fun _ => ⟨l.take k, l.drop k, h5, v6, (List.take_append_drop k l).symm, by rw [List.length_take]; omega, h64, hh5, hs7.d2⟩⟩, by simp [RowKit.intOf]⟩
  · have h1 : i = 1 := by simp at hlt; omega
    exact hR _ _ (hi1 h1)
end
end Go.Fx
set_option linter.unusedVariables false
set_option linter.unusedSimpArgs false
namespace Go.Fx
section
variable {w0 w : World} {v b s : Value} {l r : List UInt8} {As : List Asn} {g : Nat} {h : VW 8} {n : Nat}
theorem Sum_spec (hc : Cub w0) (hs : Sep w0 w (st g h s n :: ownB s r :: As)) (hr : r.length < 64) (hn : n ≤ 100000) :
    cal P f_sha_State_Sum [.pointer (some ⟨g, 0, none⟩)] w fun v w' => v = .agg (bvs ((foldM h.1 (padT r n)).flatMap wOut)).toArray ∧ Sep w0 w' (st g h s n :: ownB s r :: As) := by
  refine s_sha_State_Sum fun R hR => ?_
  unfold c_sha_State_Sum
  refine alloc_s hs (A_api_ID w) fun g2 w1 hs => ?_
  refine alloc_s hs (A_api_ID w1) fun g3 w2 hs => ?_
  refine cal_i (none_spec (Sep.p2 hs)) ?_
  rintro _ _ ⟨rfl, rfl⟩
  simp only [fx, Nat.reduceAdd, forall_const, ldS_s (Sep.p2 hs).blk]
  refine cal_i (bClone_spec (Sep.p3 hs).rd (by omega)) ?_
  rintro v1 w3 hs1
  replace hs1 := hs.join hs1
  refine app0 128 (.inr rfl) hs1 (by omega) fun v2 w4 hs2 => ?_
  rw [if_neg (by decide)] at hs2
  obtain ⟨Bs, hBs⟩ : ∃ Bs, Bs = blk g3 (Rdr.cells (rVec 32) (vz 32)).toArray T_api_ID :: blk g2 (Rdr.cells (rVec 32) (vz 32)).toArray T_api_ID :: st g h s n :: ownB s r :: As := ⟨_, rfl⟩
  have hz := zer_le (r.length + 1)
  have hs2' : Sep w0 w4 (ownB v2 (r ++ [128]) :: Bs) := by rw [hBs]; exact hs2
  refine ⟨fun a w' => ∃ j : Nat, j ≤ zer (r.length + 1) ∧ Sep w0 w' (ownB a (r ++ [128] ++ List.replicate j 0) :: Bs), fun a _ => match a with
    | .slice _ n _ => (r.length + 1 + zer (r.length + 1)) - n
    | _ => 0, ⟨0, by omega, by simpa using hs2'⟩, ?_⟩
  rintro v3 w5 ⟨j, hj, hs3⟩ -
  obtain ⟨a3, c3, rfl⟩ := Sep.sl hs3
  have hlen : (r ++ [128] ++ List.replicate j 0).length = r.length + 1 + j := by simp; omega
  simp only [lenS_mk, hlen]
  rw [bi_rem .i64 _ _ _ (by decide), show (64 : Int) = ((64 : Nat) : Int) from rfl, tmodn, bi_neq, cnd_bool]
  refine ⟨fun hq => ?_, fun hq => ?_⟩
  · have h56 : (r.length + 1 + j) % 64 ≠ 56 := by simp at hq; omega
    have hjz : j < zer (r.length + 1) := by
      rcases Nat.lt_or_ge j (zer (r.length + 1)) with h' | h'
      · exact h'
      · have : j = zer (r.length + 1) := by omega
        rw [this, zer_eq] at h56
        exact absurd rfl h56
    rw [← hlen]
    refine app0 0 (.inl rfl) hs3 (by rw [hlen]; omega) fun v4 w6 hs4 => ?_
    rw [if_pos rfl] at hs4
    have e : r ++ [128] ++ List.replicate j 0 ++ [0] = r ++ [128] ++ List.replicate (j + 1) 0 := by rw [List.replicate_succ', List.append_assoc]
    rw [e] at hs4
    obtain ⟨a4, c4, rfl⟩ := Sep.sl hs4
    refine ⟨⟨j + 1, by omega, hs4⟩, ?_⟩
    simp
    omega
  · have h56 : (r.length + 1 + j) % 64 = 56 := by simp at hq; omega
    have hjz : j = zer (r.length + 1) := by
      rcases Nat.lt_or_ge j (zer (r.length + 1)) with h' | h'
      · exact absurd h56 (zer_lt h')
      · omega
    rw [← hlen]
    have hst : Sep w0 w5 (st g h s n :: blk g3 (Rdr.cells (rVec 32) (vz 32)).toArray T_api_ID :: blk g2 (Rdr.cells (rVec 32) (vz 32)).toArray T_api_ID :: ownB s r :: As) := by
      have := hs3.tail
      rw [hBs] at this
      exact this.p2
    simp only [fx, Nat.reduceAdd, forall_const, ldS_n hst.blk]
    rw [wu64n, Nat.mod_eq_of_lt (by omega), show ((n : Int) * 8) = ((n * 8 : Nat) : Int) by simp, wu64n]
    generalize hv : n * 8 % 18446744073709551616 = x
    have hvb : x < 18446744073709551616 := by omega
    refine ⟨fun a c w' => ∃ i : Nat, c = .int .i64 i ∧ i ≤ 8 ∧ Sep w0 w' (ownB a (r ++ [128] ++ List.replicate j 0 ++ (be 8 x).take i) :: Bs), fun _ c _ => (8 - RowKit.intOf c).toNat, ⟨0, rfl, by omega, by simpa using hs3⟩, ?_⟩
    rintro v5 _ w6 ⟨i, rfl, hi, hs5⟩ -
    simp only [fx, Nat.reduceAdd, forall_const]
    rw [cnd_bool]
    refine ⟨fun hq => ?_, fun hq => ?_⟩
    · have h8 : i < 8 := by simp at hq; omega
      have e1 : IntKind.i64.wrap (56 - IntKind.i64.wrap (8 * (i : Int))) = ((56 - 8 * i : Nat) : Int) := by
        rw [wi64 (x := 8 * (i : Int)) (by omega) (by omega), wi64 (by omega) (by omega)]
        omega
      have hsh : ∀ K, sh .shr (.int .u64 (x : Int)) (.int .i64 ((56 - 8 * i : Nat) : Int)) K = K (.int .u64 ((x / 256 ^ (7 - i) : Nat) : Int)) := fun K => by
        have := shr56 x i h8 K
        rw [sh_shr _ _ _ _ _ (by omega)] at this ⊢
        exact this
      rw [e1, hsh]
      rw [cvi_int, bv_of _ (Int.natCast_nonneg _), Int.toNat_natCast]
      refine app1 hs5 (by simp [be_length]; omega) fun v6 w7 hs6 => ?_
      rw [wi64 (by omega) (by omega)]
      rw [List.append_assoc, ← be_take x 8 i h8] at hs6
      exact ⟨⟨i + 1, by simp, by omega, hs6⟩, by simp [RowKit.intOf]; omega⟩
    · have h8 : i = 8 := by simp at hq; omega
      subst h8
      rw [List.take_of_length_le (by rw [be_length]; omega)] at hs5
      have hpad : r ++ [128] ++ List.replicate j 0 ++ be 8 x = padT r n := by rw [padT, hv, ← hjz]
      rw [hpad] at hs5
      have hlp : (padT r n).length ≤ 200 := by
        rw [padT]
        simp [be_length]
        omega
      have hmod := padT_len r n
      generalize padT r n = pad at *
      have hst5 : Sep w0 w6 (st g h s n :: blk g3 (Rdr.cells (rVec 32) (vz 32)).toArray T_api_ID :: blk g2 (Rdr.cells (rVec 32) (vz 32)).toArray T_api_ID :: ownB s r :: As) := by
        have := hs5.tail
        rw [hBs] at this
        exact this.p2
      simp only [fx, Nat.reduceAdd, forall_const, ldS_h hst5.blk]
      refine alloc_s hs5 (A_a8 w6) fun g4 w7 hs6 => ?_
      refine stN_w hs6 (by simp) h.2 fun w8 hs7 => ?_
      obtain ⟨a5, c5, rfl, hc5⟩ := Sep.form (Sep.p1 hs7)
      refine ⟨fun u w' => ∃ (k : Nat) (h' : VW 8), k ≤ pad.length ∧ k % 64 = 0 ∧ foldM h.1 pad = foldM h'.1 (pad.drop k) ∧ Rest (.slice a5 pad.length c5) pad u (pad.drop k) ∧ Sep w0 w' (wa g4 h'.1 T_a8_uint32 :: ownB (.slice a5 pad.length c5) pad :: Bs), fun u _ => match u with
        | .slice _ n _ => n
        | _ => 0, ⟨0, h, by omega, rfl, rfl, Rest.start hc5, hs7⟩, ?_⟩
      rintro u w9 ⟨k, h', hk, hkm, hf, hrest, hs8⟩ -
      simp only [hrest.len, List.length_drop]
      rw [bi_gtr, cnd_bool]
      refine ⟨fun hlt => ?_, fun hlt => ?_⟩
      · have h64 : 64 ≤ (pad.drop k).length := by simp at hlt ⊢; omega
        refine drH_s hs8 fun w10 hs9 _ => ?_
        simp only [fx, Nat.reduceAdd, forall_const, rdS_ldN]
        rw [ldN_w hs9.blk h'.2]
        refine hrest.to h64 _ fun y hy => ?_
        refine efC_cal (cal_i (mixed_spec (hc.fr hs9.fr0) (hy _ (Sep.rd hs9.p1)) (by rw [List.length_take]; omega) h'.2) ?_)
        rintro _ w11 ⟨rfl, hf11⟩
        have hs10 := hs9.old hf11
        have hml := mixM_len ((pad.drop k).take 64) h'.2
        refine efC_stN (stN_w hs10 h'.2 hml fun w12 hs11 => ?_)
        refine hrest.from h64 _ fun u' hu' => ?_
        rw [List.drop_drop] at hu'
        have hll : k + 64 ≤ pad.length := by simp at h64; omega
        refine ⟨⟨k + 64, ⟨_, hml⟩, hll, by omega, ?_, hu', hs11⟩, ?_⟩
        · rw [hf, foldM_step h64, List.drop_drop]
        · obtain ⟨_, n1, _, rfl, e1, _⟩ := hrest
          obtain ⟨_, n2, _, rfl, e2, _⟩ := hu'
          simp only [List.length_drop] at e1 e2
          simp only []
          omega
      · have hge : k = pad.length := by simp at hlt; omega
        subst hge
        rw [List.drop_length, foldM_end (h := h'.1) (l := []) (by simp)] at hf
        rw [hf] at hR
        obtain ⟨o, ho⟩ : ∃ o, o = h'.1.flatMap wOut := ⟨_, rfl⟩
        have hol : o.length = 32 := by rw [ho, wOut_len, h'.2]
        rw [← ho] at hR
        rw [ldN_w hs8.blk h'.2]
        have hs9 : Sep w0 w9 (blk g3 (Rdr.cells (rVec 32) (vz 32)).toArray T_api_ID :: blk g2 (Rdr.cells (rVec 32) (vz 32)).toArray T_api_ID :: st g h s n :: ownB s r :: As) := by
          have := hs8.tail.tail
          rw [hBs] at this
          exact this
        have e0 : bvs (part o (4 * 0)) = Rdr.cells (rVec 32) (vz 32) := by rw [Nat.mul_zero, part_zero, hol]; rfl
        refine ⟨fun a w' => ∃ i : Nat, a = .int .i64 i ∧ i ≤ 8 ∧ Sep w0 w' (blk g3 (bvs (part o (4 * i))).toArray T_api_ID :: blk g2 (Rdr.cells (rVec 32) (vz 32)).toArray T_api_ID :: st g h s n :: ownB s r :: As),
          fun z _ => (8 - RowKit.intOf z).toNat, ⟨0, rfl, by omega, by rw [e0]; exact hs9⟩, ?_⟩
        rintro _ w10 ⟨i, rfl, hi, hs10⟩ -
        simp only [fx, Nat.reduceAdd, forall_const]
        rw [cnd_bool]
        refine ⟨fun hlt => ?_, fun hlt => ?_⟩
        · have h8 : i < 8 := by simp at hlt; omega
          have ei : IntKind.i64.wrap (4 * (i : Int)) = ((4 * i : Nat) : Int) := by rw [wi64 (by omega) (by omega)]; omega
          have e1 : IntKind.i64.wrap (((4 * i : Nat) : Int) + 1) = ((4 * i + 1 : Nat) : Int) := by rw [wi64 (by omega) (by omega)]; omega
          have e2 : IntKind.i64.wrap (((4 * i : Nat) : Int) + 2) = ((4 * i + 2 : Nat) : Int) := by rw [wi64 (by omega) (by omega)]; omega
          have e3 : IntKind.i64.wrap (((4 * i : Nat) : Int) + 3) = ((4 * i + 3 : Nat) : Int) := by rw [wi64 (by omega) (by omega)]; omega
          have hg : ∀ m : Nat, m < 4 → o[4 * i + m]? = some (UInt8.ofNat ((h'.1.getD i 0) >>> (24 - 8 * m)).toNat) := fun m hm => by
            have h8' := h'.2
            rw [ho, wOut_get (by omega), show (4 * i + m) / 4 = i by omega, show (4 * i + m) % 4 = m by omega]
          rw [ixv_w .i64 h'.2 h8, ei, e1, e2, e3, shr_l _ .u64 24 (by decide) (by decide), w_b, shr_l _ .u64 16 (by decide) (by decide), w_b, shr_l _ .u64 8 (by decide) (by decide), w_b, w_b]
          rw [ixa_w .i64 (by omega)]
          refine st_b hs10 (hg 0 (by decide)) fun w11 hs11 => ?_
          rw [ixa_w .i64 (by omega)]
          refine st_b hs11 (hg 1 (by decide)) fun w12 hs12 => ?_
          rw [ixa_w .i64 (by omega)]
          refine st_b hs12 (hg 2 (by decide)) fun w13 hs13 => ?_
          rw [ixa_w .i64 (by omega)]
          refine st_b hs13 (hg 3 (by decide)) fun w14 hs14 => ?_
          rw [wi64 (by omega) (by omega)]
          exact ⟨⟨i + 1, by simp, by omega, hs14⟩, by simp [RowKit.intOf]; omega⟩
        · have h8 : i = 8 := by simp at hlt; omega
          subst h8
          have e2 : bvs (part o (4 * 8)) = Rdr.cells (rVec 32) ⟨o, hol⟩ := by
            rw [show 4 * 8 = o.length by omega, part_all]
            rfl
          rw [e2] at hs10
          simp only [L_api_ID hs10.blk]
          refine St_api_ID hs10.p1 fun w15 hs15 => ?_
          simp only [L_api_ID hs15.blk]
          exact hR _ _ ⟨rfl, hs15.d1.tail⟩
/-- The program's sum is the plain one. -/
theorem shaSum_spec (hc : Cub w) (hb : RdB w.heap b l) (hl : l.length ≤ 100000) : cal P f_sha_Sum [b] w fun v w' => v = .agg (Rdr.cells (rVec 32) (shaM l)).toArray ∧ Fr [] w w' := by
  refine s_sha_Sum fun R hR => ?_
  unfold c_sha_Sum
  refine alloc_s (Sep.start w) (A_api_ID w) fun g2 w1 hs => ?_
  refine cal_i New_spec ?_
  rintro _ w2 ⟨g, rfl, hs1⟩
  replace hs1 := hs.join hs1
  have hbs : ∀ (w : World), (Instr.buildSlice T_sl_sl_uint8 1 #[(0, b)]).run P w = .ok (.slice (some ⟨w.heap.size, 0, none⟩) 1 1) (w.alloc (.cells ([b] : List Value).toArray T_sl_uint8)) := by
    obtain ⟨a, c, rfl, _⟩ := hb
    intro w
    kernel_rfl
  refine build_s (cs := [b]) (size := 1) hs1 rfl (hbs _) fun g3 w3 hs3 => ?_
  refine cal_i (Write_spec hc (Sep.p1 hs3) (.inr ⟨_, rfl⟩) hb hl) ?_
  rintro _ w4 ⟨a, r, h, s, rfl, ha, hr, hh, hs4⟩
  refine cal_i (Sum_spec (n := (a ++ r).length) hc hs4 hr hl) ?_
  rintro _ w5 ⟨rfl, hs5⟩
  have e : foldM h.1 (padT r (a ++ r).length) = shaL (a ++ r) := by rw [shaL, padT_app _ _ _ ha, foldM_app ha, hh]
  have e2 : bvs ((foldM h.1 (padT r (a ++ r).length)).flatMap wOut) = Rdr.cells (rVec 32) (shaM (a ++ r)) := by rw [e]; rfl
  rw [e2]
  refine St_api_ID (Sep.p3 hs5) fun w6 hs6 => ?_
  simp only [L_api_ID hs6.blk]
  exact hR _ _ ⟨rfl, hs6.fr0⟩
end
end Go.Fx
set_option linter.unusedVariables false
set_option linter.unusedSimpArgs false
namespace Go.Fx
structure Blk where
  p : Vec 32
  h : Int
  d : List UInt8
deriving DecidableEq
def Blk.none : Blk := ⟨vz 32, 0, []⟩
def Blk.chk (b : Blk) : Int := if b.h < 0 ∨ 200 < b.d.length ∨ (b.h = 0 ∧ b.p ≠ vz 32) then 30 else 0
theorem Blk.chk_or (b : Blk) : b.chk = 0 ∨ b.chk = 30 := by unfold Blk.chk; split <;> simp
theorem Blk.chk_ok {b : Blk} (h : b.chk = 0) : 0 ≤ b.h ∧ b.d.length ≤ 200 ∧ (b.h = 0 → b.p = vz 32) := by
  unfold Blk.chk at h
  split at h
  · cases h
  · rename_i hn
    refine ⟨by omega, by omega, fun h0 => ?_⟩
    by_cases hp : b.p = vz 32
    · exact hp
    · exact absurd (.inr (.inr ⟨h0, hp⟩)) hn
/-- A block as a value: its data stand where v says. -/
abbrev bq (b : Blk) (v : Value) : Value := .agg (Rdr.cells Q_api_Block (b.p, b.h, v)).toArray
abbrev bb (g : Nat) (b : Blk) (v : Value) : Asn := blk g (Rdr.cells Q_api_Block (b.p, b.h, v)).toArray T_api_Block
theorem B_ID0 {w : World} (K : Value → Prop) : rdP P (Instr.build T_api_ID #[]) w K = K (.agg (Rdr.cells (rVec 32) (vz 32)).toArray) := rdP_eq (by kernel_rfl) K
theorem bxQ {w0 w : World} {As : List Asn} {t : TypeId} {cs : Array Value} {K : Value → World → Prop} (hs : Sep w0 w As) (h : ∀ g w', Sep w0 w' (blk g cs t :: As) → K (.pointer (some ⟨g, 0, .none⟩)) w') : bx t (.agg cs) w K := bx_s hs fun g w' hs' => h g w' hs'
theorem RdB.one {h : Heap} {v : Value} {l : List UInt8} (hr : RdB h v l) : v.oneCell' = true := by obtain ⟨a, c, rfl⟩ := hr.form; rfl
section
variable {w0 w : World} {As : List Asn} {v u : Value} {a b : Blk}
theorem Check_spec (hb : RdB w.heap v b.d) : cal P f_block_Check [bq b v] w fun r w' => r = .int .i64 b.chk ∧ Fr [] w w' := by
  refine s_block_Check fun R hR => ?_
  unfold c_block_Check
  refine bxQ (Sep.start w) fun g w1 hs => ?_
  have hl := (hs.rdB hb).len
  have hf := hs.fr0
  have fin : ∀ c : Int, b.chk = c → R (.int .i64 c) w1 := fun c hc => hR _ _ ⟨by rw [hc], hf⟩
  by_cases h : b.h < 0
  · simp only [h, decide_true, fx, Nat.reduceAdd, forall_const, L_api_Block hs.blk, L_api_Block__Parent hs.blk, L_api_Block__Height hs.blk, L_api_Block__Data hs.blk]
    exact fin 30 (by simp [Blk.chk, h])
  · by_cases h2 : 200 < b.d.length
    · have e : decide ((200 : Int) < b.d.length) = true := by simp; omega
      simp only [h, decide_false, e, hl, fx, Nat.reduceAdd, forall_const, L_api_Block hs.blk, L_api_Block__Parent hs.blk, L_api_Block__Height hs.blk, L_api_Block__Data hs.blk]
      exact fin 30 (by simp [Blk.chk, h2])
    · have e : decide ((200 : Int) < b.d.length) = false := by simp; omega
      by_cases h0 : b.h = 0
      · simp only [h, decide_false, e, hl, fx, Nat.reduceAdd, forall_const, L_api_Block hs.blk, L_api_Block__Parent hs.blk, L_api_Block__Height hs.blk, L_api_Block__Data hs.blk, B_ID0, ne_api_ID, h0, show ((0 : Int) == 0) = true from rfl, show decide ((0 : Int) < 0) = false from rfl]
        rw [cnd_bool]
        refine ⟨fun h3 => fin 30 ?_, fun h3 => fin 0 ?_⟩
        · have h3 : b.p ≠ vz 32 := by simpa using h3
          simp [Blk.chk, h0, h3]
        · have h3 : b.p = vz 32 := by simpa using h3
          unfold Blk.chk
          rw [if_neg (by rw [h3]; simp; omega)]
      · have he : (b.h == 0) = false := by simpa using h0
        simp only [h, decide_false, e, hl, fx, Nat.reduceAdd, forall_const, L_api_Block hs.blk, L_api_Block__Parent hs.blk, L_api_Block__Height hs.blk, L_api_Block__Data hs.blk, he]
        refine fin 0 ?_
        unfold Blk.chk
        rw [if_neg (by simp [h0]; omega)]
theorem rCheck_spec (hb : RdB w.heap v b.d) : cal P f_ref03_Check [bq b v] w fun r w' => r = .int .i64 b.chk ∧ Fr [] w w' := by
  refine s_ref03_Check fun R hR => ?_
  unfold c_ref03_Check
  refine bxQ (Sep.start w) fun g w1 hs => ?_
  have hl := (hs.rdB hb).len
  have hf := hs.fr0
  have fin : ∀ c : Int, b.chk = c → R (.int .i64 c) w1 := fun c hc => hR _ _ ⟨by rw [hc], hf⟩
  by_cases h : b.h < 0
  · simp only [h, decide_true, fx, Nat.reduceAdd, forall_const, L_api_Block hs.blk, L_api_Block__Parent hs.blk, L_api_Block__Height hs.blk, L_api_Block__Data hs.blk]
    exact fin 30 (by simp [Blk.chk, h])
  · by_cases h2 : 200 < b.d.length
    · have e : decide ((200 : Int) < b.d.length) = true := by simp; omega
      simp only [h, decide_false, e, hl, fx, Nat.reduceAdd, forall_const, L_api_Block hs.blk, L_api_Block__Parent hs.blk, L_api_Block__Height hs.blk, L_api_Block__Data hs.blk]
      exact fin 30 (by simp [Blk.chk, h2])
    · have e : decide ((200 : Int) < b.d.length) = false := by simp; omega
      by_cases h0 : b.h = 0
      · simp only [h, decide_false, e, hl, fx, Nat.reduceAdd, forall_const, L_api_Block hs.blk, L_api_Block__Parent hs.blk, L_api_Block__Height hs.blk, L_api_Block__Data hs.blk, B_ID0, ne_api_ID, h0, show ((0 : Int) == 0) = true from rfl, show decide ((0 : Int) < 0) = false from rfl]
        rw [cnd_bool]
        refine ⟨fun h3 => fin 30 ?_, fun h3 => fin 0 ?_⟩
        · have h3 : b.p ≠ vz 32 := by simpa using h3
          simp [Blk.chk, h0, h3]
        · have h3 : b.p = vz 32 := by simpa using h3
          unfold Blk.chk
          rw [if_neg (by rw [h3]; simp; omega)]
      · have he : (b.h == 0) = false := by simpa using h0
        simp only [h, decide_false, e, hl, fx, Nat.reduceAdd, forall_const, L_api_Block hs.blk, L_api_Block__Parent hs.blk, L_api_Block__Height hs.blk, L_api_Block__Data hs.blk, he]
        refine fin 0 ?_
        unfold Blk.chk
        rw [if_neg (by simp [h0]; omega)]
theorem Blk.ext_iff' {a b : Blk} : a = b ↔ a.p = b.p ∧ a.h = b.h ∧ a.d = b.d := by
  cases a; cases b; simp
theorem rSame_spec (ha : RdB w.heap u a.d) (hb : RdB w.heap v b.d) : cal P f_ref03_Same [bq a u, bq b v] w fun r w' => r = .bool (decide (a = b)) ∧ Fr [] w w' := by
  refine s_ref03_Same fun R hR => ?_
  unfold c_ref03_Same
  refine bxQ (Sep.start w) fun g w1 hs => ?_
  refine bxQ hs fun g2 w2 hs2 => ?_
  have hf := hs2.fr0
  have fin : ∀ c : Bool, decide (a = b) = c → R (.bool c) w2 := fun c hc => hR _ _ ⟨by rw [hc], hf⟩
  simp only [fx, Nat.reduceAdd, forall_const, L_api_Block hs2.blk, L_api_Block__Parent hs2.blk, L_api_Block__Height hs2.blk, L_api_Block__Data hs2.blk, L_api_Block (Sep.p1 hs2).blk, L_api_Block__Parent (Sep.p1 hs2).blk, L_api_Block__Height (Sep.p1 hs2).blk, L_api_Block__Data (Sep.p1 hs2).blk, eq_api_ID]
  by_cases hp : a.p = b.p
  · simp only [hp, decide_true, fx, Nat.reduceAdd, forall_const, L_api_Block hs2.blk, L_api_Block__Parent hs2.blk, L_api_Block__Height hs2.blk, L_api_Block__Data hs2.blk, L_api_Block (Sep.p1 hs2).blk, L_api_Block__Parent (Sep.p1 hs2).blk, L_api_Block__Height (Sep.p1 hs2).blk, L_api_Block__Data (Sep.p1 hs2).blk]
    by_cases hh : a.h = b.h
    · simp only [hh, fx, Nat.reduceAdd, forall_const, beq_self_eq_true, L_api_Block hs2.blk, L_api_Block__Parent hs2.blk, L_api_Block__Height hs2.blk, L_api_Block__Data hs2.blk, L_api_Block (Sep.p1 hs2).blk, L_api_Block__Parent (Sep.p1 hs2).blk, L_api_Block__Height (Sep.p1 hs2).blk, L_api_Block__Data (Sep.p1 hs2).blk]
      refine jn1_dup ?_
      rw [rdP_eq (conv_str UT_bytes UT_uint8 UT_string (hs2.rdB ha)), rdP_eq (conv_str UT_bytes UT_uint8 UT_string (hs2.rdB hb)), eqS_str]
      intro _
      refine fin _ ?_
      rw [Bool.eq_iff_iff]
      simp [Blk.ext_iff', hp, hh]
    · have e : (a.h == b.h) = false := by simpa using hh
      simp only [e, fx, Nat.reduceAdd, forall_const]
      exact fin _ (by simp [Blk.ext_iff', hh])
  · simp only [hp, decide_false, fx, Nat.reduceAdd, forall_const]
    exact fin _ (by simp [Blk.ext_iff', hp])
theorem bkClone_spec (hb : RdB w.heap v b.d) (hl : b.d.length ≤ 140737488355328) : cal P f_block_Clone [bq b v] w fun r w' => ∃ v', r = bq b v' ∧ Sep w w' [ownB v' b.d] := by
  refine s_block_Clone fun R hR => ?_
  unfold c_block_Clone
  refine bxQ (Sep.start w) fun g w1 hs => ?_
  refine alloc_s hs (A_api_Block w1) fun g2 w2 hs2 => ?_
  simp only [fx, Nat.reduceAdd, forall_const, L_api_Block (Sep.p1 hs2).blk, L_api_Block__Parent (Sep.p1 hs2).blk, L_api_Block__Height (Sep.p1 hs2).blk, L_api_Block__Data (Sep.p1 hs2).blk]
  refine cal_i (bClone_spec (hs2.rdB hb) hl) ?_
  rintro v' w3 hs3
  replace hs3 := (hs2.join hs3).p2
  refine St_api_Block__Data hs3 (Sep.one hs3.p1) fun w4 hs4 => ?_
  simp only [L_api_Block hs4.blk, L_api_Block__Parent hs4.blk, L_api_Block__Height hs4.blk, L_api_Block__Data hs4.blk]
  refine St_api_Block hs4.p2 (one_api_Block (Sep.one hs4.p1)) fun w5 hs5 => ?_
  simp only [L_api_Block hs5.blk, L_api_Block__Parent hs5.blk, L_api_Block__Height hs5.blk, L_api_Block__Data hs5.blk]
  exact hR _ _ ⟨v', rfl, hs5.d1.tail⟩
theorem rbClone_spec (hb : RdB w.heap v b.d) (hl : b.d.length ≤ 140737488355328) : cal P f_ref03_Clone [bq b v] w fun r w' => ∃ v', r = bq b v' ∧ Sep w w' [ownB v' b.d] := by
  refine s_ref03_Clone fun R hR => ?_
  unfold c_ref03_Clone
  refine bxQ (Sep.start w) fun g w1 hs => ?_
  refine alloc_s hs (A_api_Block w1) fun g2 w2 hs2 => ?_
  simp only [fx, Nat.reduceAdd, forall_const, L_api_Block (Sep.p1 hs2).blk, L_api_Block__Parent (Sep.p1 hs2).blk, L_api_Block__Height (Sep.p1 hs2).blk, L_api_Block__Data (Sep.p1 hs2).blk]
  refine appB_s S_sl_uint8 U_sl_uint8 (by simp) hs2.nil (hs2.rdB hb) (by simp; omega) fun v' w3 hs3 => ?_
  rw [List.nil_append] at hs3
  replace hs3 := hs3.p2
  refine St_api_Block__Data hs3 (Sep.one hs3.p1) fun w4 hs4 => ?_
  simp only [L_api_Block hs4.blk, L_api_Block__Parent hs4.blk, L_api_Block__Height hs4.blk, L_api_Block__Data hs4.blk]
  refine St_api_Block hs4.p2 (one_api_Block (Sep.one hs4.p1)) fun w5 hs5 => ?_
  simp only [L_api_Block hs5.blk, L_api_Block__Parent hs5.blk, L_api_Block__Height hs5.blk, L_api_Block__Data hs5.blk]
  exact hR _ _ ⟨v', rfl, hs5.d1.tail⟩
/-- A block, if it may be. -/
def Blk.mk' (b : Blk) : Blk := if b.chk = 0 then b else Blk.none
theorem made_spec (hb : RdB w.heap v b.d) : cal P f_block_made [bq b v] w fun r w' => ∃ v', r = .tuple #[bq b.mk' v', .int .i64 b.chk] ∧ Sep w w' [ownB v' b.mk'.d] := by
  refine s_block_made fun R hR => ?_
  unfold c_block_made
  refine bxQ (Sep.start w) fun g w1 hs => ?_
  refine alloc_s hs (A_api_Block w1) fun g2 w2 hs2 => ?_
  simp only [fx, Nat.reduceAdd, forall_const, L_api_Block (Sep.p1 hs2).blk, L_api_Block__Parent (Sep.p1 hs2).blk, L_api_Block__Height (Sep.p1 hs2).blk, L_api_Block__Data (Sep.p1 hs2).blk]
  refine cal_i (Check_spec (hs2.rdB hb)) ?_
  rintro _ w3 ⟨rfl, hf3⟩
  have hs3 := hs2.old hf3
  rw [bi_neq]
  rcases Blk.chk_or b with h0 | h0
  · have hck := Blk.chk_ok h0
    have hm : b.mk' = b := by rw [Blk.mk', if_pos h0]
    rw [hm, h0] at hR
    simp only [h0, fx, Nat.reduceAdd, forall_const, L_api_Block (Sep.p1 hs3).blk, L_api_Block__Parent (Sep.p1 hs3).blk, L_api_Block__Height (Sep.p1 hs3).blk, L_api_Block__Data (Sep.p1 hs3).blk, show ((0 : Int) != 0) = false from rfl]
    refine cal_i (bkClone_spec (hs3.rdB hb) (by omega)) ?_
    rintro _ w4 ⟨v', rfl, hs4⟩
    replace hs4 := (hs3.join hs4).p1
    refine St_api_Block hs4 (one_api_Block (Sep.one hs4.p1)) fun w5 hs5 => ?_
    simp only [L_api_Block hs5.blk, L_api_Block__Parent hs5.blk, L_api_Block__Height hs5.blk, L_api_Block__Data hs5.blk]
    exact hR _ _ ⟨v', rfl, hs5.d2.tail⟩
  · have hm : b.mk' = Blk.none := by rw [Blk.mk', if_neg (by omega)]
    rw [hm, h0] at hR
    simp only [h0, fx, Nat.reduceAdd, forall_const, B_api_Block, show ((30 : Int) != 0) = true from rfl]
    refine St_api_Block hs3 (one_api_Block rfl) fun w5 hs5 => ?_
    simp only [L_api_Block hs5.blk, L_api_Block__Parent hs5.blk, L_api_Block__Height hs5.blk, L_api_Block__Data hs5.blk]
    exact hR _ _ ⟨_, rfl, hs5.d1.tail.nil⟩
def Blk.first (d : List UInt8) : Blk := ⟨vz 32, 0, d⟩
end
end Go.Fx
set_option linter.unusedVariables false
set_option linter.unusedSimpArgs false
namespace Go.Fx
def Blk.bytes (b : Blk) : List UInt8 := [0, 0] ++ b.p.1 ++ be 8 b.h.toNat ++ be 4 b.d.length ++ b.d
theorem Blk.bytes_len (b : Blk) : b.bytes.length = 46 + b.d.length := by
  have := b.p.2
  simp [Blk.bytes, be_length, this]
  omega
def Blk.out (b : Blk) : List UInt8 := if b.chk = 0 then b.bytes else []
def Blk.id (b : Blk) : Vec 32 := shaM b.bytes
def Blk.name (b : Blk) : Vec 32 := if b.chk = 0 then b.id else vz 32
abbrev maxI : Int := 9223372036854775807
section
variable {w0 w : World} {As : List Asn} {v u : Value} {a b : Blk} {g : Nat}
theorem at_par (hs : Sep w0 w (bb g b v :: As)) : At w.heap g 0 (bvs b.p.1) := by
  have := (Fld.fst Fld.self : Fld Q_api_Block (rVec 32) 0 _ _).at (At.blk (cs := Rdr.cells Q_api_Block (b.p, b.h, v)) hs.blk)
  exact this
theorem rd_par (hs : Sep w0 w (bb g b v :: As)) (c : Nat) : RdB w.heap (.slice (some ⟨g, 0, none⟩) 32 c) b.p.1 := by
  have := At.rd (c := c) (at_par hs)
  rwa [b.p.2] at this
theorem ld_par (hs : Sep w0 w (bb g b v :: As)) {i : Nat} (hi : i < 32) (K : Value → Prop) : ld1 (.pointer (some ⟨g, i, none⟩)) w.heap K = K (bv (b.p.1[i]'(by rw [b.p.2]; exact hi))) := by
  have hl := b.p.2
  have h1 : bvs b.p.1 = bvs (b.p.1.take i) ++ [bv (b.p.1[i]'(by omega))] ++ bvs (b.p.1.drop (i + 1)) := by
    have e : b.p.1 = b.p.1.take i ++ b.p.1[i]'(by omega) :: b.p.1.drop (i + 1) := by rw [← List.drop_eq_getElem_cons, List.take_append_drop]
    unfold bvs
    conv => lhs; rw [e]
    rw [List.map_append, List.map_cons]
    simp only [List.append_assoc, List.singleton_append]
  have ha := at_par hs
  rw [h1] at ha
  have := (ha.part (k := i) (by simp [bvs]; omega)).ld1 K
  rwa [Nat.zero_add] at this
theorem u64_h {h : Int} (h0 : 0 ≤ h) (h1 : h ≤ maxI) : IntKind.u64.wrap h = (h.toNat : Int) := by
  unfold maxI at h1
  rw [wu64i h0 (by omega)]; omega
theorem bkBytes_spec (hb : RdB w.heap v b.d) (hh : b.h ≤ maxI) : cal P f_block_Bytes [bq b v] w fun r w' => ∃ s, r = .tuple #[s, .int .i64 b.chk] ∧ Sep w w' [ownB s b.out] := by
  refine s_block_Bytes fun R hR => ?_
  unfold c_block_Bytes
  refine bxQ (Sep.start w) fun g w1 hs => ?_
  simp only [L_api_Block hs.blk, L_api_Block__Parent hs.blk, L_api_Block__Height hs.blk, L_api_Block__Data hs.blk]
  refine cal_i (Check_spec (hs.rdB hb)) ?_
  rintro _ w2 ⟨rfl, hf2⟩
  have hs2 := hs.old hf2
  rw [bi_neq]
  rcases Blk.chk_or b with h0 | h0
  · have hck := Blk.chk_ok h0
    have ho : b.out = b.bytes := by rw [Blk.out, if_pos h0]
    rw [ho, h0] at hR
    simp only [h0, fx, Nat.reduceAdd, forall_const, show ((0 : Int) != 0) = false from rfl]
    refine cal_i (NewS 246 (by omega)) ?_
    rintro _ w3 ⟨gp, rfl, hs3⟩
    replace hs3 := hs2.join hs3
    refine cal_i (ShortS hs3 (v := 0) (by omega) (by omega) (by simp)) ?_
    rintro _ w4 ⟨rfl, s4, hs4⟩
    rw [sla_all]
    refine cal_i (FixedS hs4 (c := b.p.1) (by omega) (fun z hz => rd_par hz 32) (by simp [be_length, b.p.2])) ?_
    rintro _ w5 ⟨rfl, s5, hs5⟩
    simp only [fx, Nat.reduceAdd, forall_const, L_api_Block (Sep.p2 hs5).blk, L_api_Block__Parent (Sep.p2 hs5).blk, L_api_Block__Height (Sep.p2 hs5).blk, L_api_Block__Data (Sep.p2 hs5).blk, u64_h hck.1 hh]
    refine cal_i (LongS hs5 (by omega) (by unfold maxI at hh; omega) (by simp [be_length, b.p.2])) ?_
    rintro _ w6 ⟨rfl, s6, hs6⟩
    simp only [fx, Nat.reduceAdd, forall_const, L_api_Block (Sep.p2 hs6).blk, L_api_Block__Parent (Sep.p2 hs6).blk, L_api_Block__Height (Sep.p2 hs6).blk, L_api_Block__Data (Sep.p2 hs6).blk]
    refine cal_i (BytesS hs6 (by omega) (fun z hz => hz.rdB hb) (by simp [be_length, b.p.2]; omega)) ?_
    rintro _ w7 ⟨rfl, s7, hs7⟩
    refine cal_i (OutS hs7 (by simp [be_length, b.p.2]; omega)) ?_
    rintro _ w8 ⟨r, rfl, hs8⟩
    simp only [fx, Nat.reduceAdd, forall_const]
    have e : [] ++ be 2 0 ++ b.p.1 ++ be 8 b.h.toNat ++ (be 4 b.d.length ++ b.d) = b.bytes := by
      simp [Blk.bytes, be]
    rw [e] at hs8
    exact hR _ _ ⟨r, rfl, hs8.d1.d1.d1⟩
  · have ho : b.out = [] := by rw [Blk.out, if_neg (by omega)]
    rw [ho, h0] at hR
    simp only [h0, fx, Nat.reduceAdd, forall_const, show ((30 : Int) != 0) = true from rfl]
    exact hR _ _ ⟨_, rfl, hs2.tail.nil⟩
theorem rbBytes_spec (hb : RdB w.heap v b.d) (hh : b.h ≤ maxI) : cal P f_ref03_Bytes [bq b v] w fun r w' => ∃ s, r = .tuple #[s, .int .i64 b.chk] ∧ Sep w w' [ownB s b.out] := by
  refine s_ref03_Bytes fun R hR => ?_
  unfold c_ref03_Bytes
  refine bxQ (Sep.start w) fun g w1 hs => ?_
  simp only [L_api_Block hs.blk, L_api_Block__Parent hs.blk, L_api_Block__Height hs.blk, L_api_Block__Data hs.blk]
  refine cal_i (rCheck_spec (hs.rdB hb)) ?_
  rintro _ w2 ⟨rfl, hf2⟩
  have hs2 := hs.old hf2
  rw [bi_neq]
  rcases Blk.chk_or b with h0 | h0
  · have hck := Blk.chk_ok h0
    have hp := b.p.2
    have ho : b.out = b.bytes := by rw [Blk.out, if_pos h0]
    rw [ho, h0] at hR
    simp only [h0, fx, Nat.reduceAdd, forall_const, show ((0 : Int) != 0) = false from rfl]
    have hr : ∀ w : World, (Instr.buildSlice T_sl_uint8 2 #[(0, .int .u8 0), (1, .int .u8 0)]).run P w = .ok (.slice (some ⟨w.heap.size, 0, none⟩) 2 2) (w.alloc (.cells (bvs [0, 0]).toArray T_uint8)) := fun w => by kernel_rfl
    refine buildB_s (l := [0, 0]) hs2 rfl (hr w2) fun g3 w3 hs3 => ?_
    refine ⟨fun x y w' => ∃ i : Nat, y = .int .i64 i ∧ i ≤ 32 ∧ Sep w w' [ownB x ([0, 0] ++ b.p.1.take i), bb g b v], fun _ y _ => (32 - RowKit.intOf y).toNat, ⟨0, rfl, by omega, by simpa using hs3⟩, ?_⟩
    rintro s4 _ w4 ⟨i, rfl, hi, hs4⟩ -
    simp only [fx, Nat.reduceAdd, forall_const]
    rw [cnd_bool]
    refine ⟨fun h => ?_, fun h => ?_⟩
    · have h32 : i < 32 := by simp at h; omega
      rw [ixa_w .i64 h32, ld_par hs4.p1 h32]
      refine app1 hs4 (by simp; omega) fun s5 w5 hs5 => ?_
      rw [wi64 (by omega) (by omega)]
      refine ⟨⟨i + 1, by simp, by omega, ?_⟩, by simp [RowKit.intOf]; omega⟩
      rw [List.take_succ_eq_append_getElem (by omega), ← List.append_assoc]
      exact hs5
    · have h32 : i = 32 := by simp at h; omega
      subst h32
      rw [List.take_of_length_le (by omega)] at hs4
      simp only [fx, Nat.reduceAdd, forall_const, L_api_Block (Sep.p1 hs4).blk, L_api_Block__Parent (Sep.p1 hs4).blk, L_api_Block__Height (Sep.p1 hs4).blk, L_api_Block__Data (Sep.p1 hs4).blk, u64_h hck.1 hh]
      refine cal_i (rNumS (n := 8) (by omega) (by unfold maxI at hh; omega)) ?_
      rintro t5 w5 hs5
      replace hs5 := (hs4.join hs5).p1
      refine appB_s ST_bytes UT_bytes (by simp) hs5 (Sep.rd hs5.p1) (by simp [be_length, hp]) fun s6 w6 hs6 => ?_
      replace hs6 := hs6.d1
      have hl := (hs6.rdB hb).len
      simp only [fx, Nat.reduceAdd, forall_const, L_api_Block (Sep.p1 hs6).blk, L_api_Block__Parent (Sep.p1 hs6).blk, L_api_Block__Height (Sep.p1 hs6).blk, L_api_Block__Data (Sep.p1 hs6).blk, hl]
      rw [wu64i (by omega) (by omega)]
      refine cal_i (rNumS (n := 4) (by omega) (by omega)) ?_
      rintro t7 w7 hs7
      replace hs7 := (hs6.join hs7).p1
      refine appB_s ST_bytes UT_bytes (by simp) hs7 (Sep.rd hs7.p1) (by simp [be_length, hp]) fun s8 w8 hs8 => ?_
      replace hs8 := hs8.d1
      simp only [fx, Nat.reduceAdd, forall_const, L_api_Block (Sep.p1 hs8).blk, L_api_Block__Parent (Sep.p1 hs8).blk, L_api_Block__Height (Sep.p1 hs8).blk, L_api_Block__Data (Sep.p1 hs8).blk]
      refine appB_s ST_bytes UT_bytes (by simp) hs8 (hs8.rdB hb) (by simp [be_length, hp]; omega) fun s9 w9 hs9 => ?_
      have e : [0, 0] ++ b.p.1 ++ be 8 b.h.toNat ++ be 4 b.d.length ++ b.d = b.bytes := rfl
      rw [e] at hs9
      exact hR _ _ ⟨s9, rfl, hs9.d1⟩
  · have ho : b.out = [] := by rw [Blk.out, if_neg (by omega)]
    rw [ho, h0] at hR
    simp only [h0, fx, Nat.reduceAdd, forall_const, show ((30 : Int) != 0) = true from rfl]
    exact hR _ _ ⟨_, rfl, hs2.tail.nil⟩
theorem bkID_spec (hc : Cub w) (hb : RdB w.heap v b.d) (hh : b.h ≤ maxI) : cal P f_block_ID [bq b v] w fun r w' => r = .tuple #[.agg (Rdr.cells (rVec 32) b.name).toArray, .int .i64 b.chk] ∧ Fr [] w w' := by
  refine s_block_ID fun R hR => ?_
  unfold c_block_ID
  refine bxQ (Sep.start w) fun g w1 hs => ?_
  refine alloc_s hs (A_api_ID w1) fun g2 w2 hs2 => ?_
  simp only [L_api_Block (Sep.p1 hs2).blk, L_api_Block__Parent (Sep.p1 hs2).blk, L_api_Block__Height (Sep.p1 hs2).blk, L_api_Block__Data (Sep.p1 hs2).blk]
  refine cal_i (bkBytes_spec (hs2.rdB hb) hh) ?_
  rintro _ w3 ⟨s, rfl, hs3⟩
  replace hs3 := hs2.join hs3
  simp only [fx, Nat.reduceAdd, forall_const]
  rcases Blk.chk_or b with h0 | h0
  · have hck := Blk.chk_ok h0
    have ho : b.out = b.bytes := by rw [Blk.out, if_pos h0]
    have hn : b.name = shaM b.bytes := by rw [Blk.name, if_pos h0, Blk.id]
    rw [ho] at hs3
    rw [hn, h0] at hR
    simp only [h0, fx, Nat.reduceAdd, forall_const, show ((0 : Int) != 0) = false from rfl]
    refine cal_i (shaSum_spec (hc.fr hs3.fr0) (Sep.rd hs3) (by rw [Blk.bytes_len]; omega)) ?_
    rintro _ w4 ⟨rfl, hf4⟩
    have hs4 := (hs3.old hf4).p1
    refine St_api_ID hs4 fun w5 hs5 => ?_
    simp only [L_api_ID hs5.blk]
    exact hR _ _ ⟨rfl, hs5.fr0⟩
  · have hn : b.name = vz 32 := by rw [Blk.name, if_neg (by omega)]
    rw [hn, h0] at hR
    simp only [h0, fx, Nat.reduceAdd, forall_const, B_ID0, show ((30 : Int) != 0) = true from rfl]
    refine St_api_ID hs3.p1 fun w5 hs5 => ?_
    simp only [L_api_ID hs5.blk]
    exact hR _ _ ⟨rfl, hs5.fr0⟩
theorem rbID_spec (hb : RdB w.heap v b.d) (hh : b.h ≤ maxI) : cal P f_ref03_ID [bq b v] w fun r w' => r = .tuple #[.agg (Rdr.cells (rVec 32) b.name).toArray, .int .i64 b.chk] ∧ Fr [] w w' := by
  refine s_ref03_ID fun R hR => ?_
  unfold c_ref03_ID
  refine bxQ (Sep.start w) fun g w1 hs => ?_
  refine alloc_s hs (A_api_ID w1) fun g2 w2 hs2 => ?_
  simp only [L_api_Block (Sep.p1 hs2).blk, L_api_Block__Parent (Sep.p1 hs2).blk, L_api_Block__Height (Sep.p1 hs2).blk, L_api_Block__Data (Sep.p1 hs2).blk]
  refine cal_i (rbBytes_spec (hs2.rdB hb) hh) ?_
  rintro _ w3 ⟨s, rfl, hs3⟩
  replace hs3 := hs2.join hs3
  simp only [fx, Nat.reduceAdd, forall_const]
  rcases Blk.chk_or b with h0 | h0
  · have hck := Blk.chk_ok h0
    have ho : b.out = b.bytes := by rw [Blk.out, if_pos h0]
    have hn : b.name = shaM b.bytes := by rw [Blk.name, if_pos h0, Blk.id]
    rw [ho] at hs3
    rw [hn, h0] at hR
    simp only [h0, fx, Nat.reduceAdd, forall_const, show ((0 : Int) != 0) = false from rfl]
    refine cal_i (rSum_spec (Sep.rd hs3) (by rw [Blk.bytes_len]; omega)) ?_
    rintro _ w4 ⟨rfl, hf4⟩
    have hs4 := (hs3.old hf4).p1
    refine St_api_ID hs4 fun w5 hs5 => ?_
    simp only [L_api_ID hs5.blk]
    exact hR _ _ ⟨rfl, hs5.fr0⟩
  · have hn : b.name = vz 32 := by rw [Blk.name, if_neg (by omega)]
    rw [hn, h0] at hR
    simp only [h0, fx, Nat.reduceAdd, forall_const, B_ID0, show ((30 : Int) != 0) = true from rfl]
    refine St_api_ID hs3.p1 fun w5 hs5 => ?_
    simp only [L_api_ID hs5.blk]
    exact hR _ _ ⟨rfl, hs5.fr0⟩
end
end Go.Fx
set_option linter.unusedVariables false
set_option linter.unusedSimpArgs false
namespace Go.Fx
def Blk.kid (b : Blk) (d : List UInt8) : Blk := ⟨b.id, b.h + 1, d⟩
def Blk.kidOk (b : Blk) (d : List UInt8) : Prop := b.chk = 0 ∧ b.h ≠ maxI ∧ d.length ≤ 200
instance (b : Blk) (d : List UInt8) : Decidable (b.kidOk d) := by unfold Blk.kidOk; infer_instance
def Blk.child (b : Blk) (d : List UInt8) : Blk := if b.kidOk d then b.kid d else Blk.none
def Blk.childE (b : Blk) (d : List UInt8) : Int := if b.kidOk d then 0 else 30
def Blk.link (c b : Blk) : Int := if b.chk ≠ 0 ∨ c.chk ≠ 0 then 30 else if c.p = b.id ∧ c.h = b.h + 1 then 0 else 31
theorem Blk.kid_chk {b : Blk} {d : List UInt8} (h : 0 ≤ b.h) : (b.kid d).chk = if 200 < d.length then 30 else 0 := by
  unfold Blk.chk Blk.kid
  by_cases hd : 200 < d.length
  · rw [if_pos (.inr (.inl hd)), if_pos hd]
  · rw [if_neg (by simp; omega), if_neg hd]
theorem Blk.link_kid {b : Blk} {d : List UInt8} (hk : b.kidOk d) : (b.kid d).link b = 0 ∧ b.link (b.kid d) = 31 := by
  obtain ⟨h0, hm, hd⟩ := hk
  have hck := Blk.chk_ok h0
  have hkc : (b.kid d).chk = 0 := by rw [Blk.kid_chk hck.1, if_neg (by omega)]
  refine ⟨?_, ?_⟩
  · rw [Blk.link, if_neg (by rw [h0, hkc]; simp), if_pos ⟨rfl, rfl⟩]
  · rw [Blk.link, if_neg (by rw [h0, hkc]; simp), if_neg]
    rintro ⟨_, h2⟩
    have : b.h = b.h + 1 + 1 := h2
    omega
section
variable {w0 w : World} {As : List Asn} {v u : Value} {a b : Blk} {g : Nat} {d : List UInt8}
theorem rbChild_spec (hb : RdB w.heap v b.d) (hd : RdB w.heap u d) (hh : b.h ≤ maxI) : cal P f_ref03_Child [bq b v, u] w fun r w' => ∃ v', r = .tuple #[bq (b.child d) v', .int .i64 (b.childE d)] ∧ Sep w w' [ownB v' (b.child d).d] := by
  refine s_ref03_Child fun R hR => ?_
  unfold c_ref03_Child
  refine bxQ (Sep.start w) fun g w1 hs => ?_
  refine alloc_s hs (A_api_Block w1) fun g2 w2 hs2 => ?_
  simp only [L_api_Block (Sep.p1 hs2).blk, L_api_Block__Parent (Sep.p1 hs2).blk, L_api_Block__Height (Sep.p1 hs2).blk, L_api_Block__Data (Sep.p1 hs2).blk]
  refine cal_i (rbID_spec (hs2.rdB hb) hh) ?_
  rintro _ w3 ⟨rfl, hf3⟩
  have hs3 := hs2.old hf3
  simp only [fx, Nat.reduceAdd, forall_const]
  refine alloc_s hs3 (A_api_ID w3) fun g4 w4 hs4 => ?_
  refine St_api_ID hs4 fun w5 hs5 => ?_
  have hld := (hs5.rdB hd).len
  have bad : ¬ b.kidOk d → stN 34 (.pointer (some ⟨g2, 0, none⟩)) (bq Blk.none (.slice none 0 0)) w5 fun w => ldN 34 (.pointer (some ⟨g2, 0, none⟩)) w.heap fun r1 => R (.tuple #[r1, .int .i64 30]) w := fun hn => by
    rw [Blk.child, Blk.childE, if_neg hn, if_neg hn] at hR
    refine St_api_Block hs5.p1 (one_api_Block rfl) fun w6 hs6 => ?_
    simp only [L_api_Block hs6.blk, L_api_Block__Parent hs6.blk, L_api_Block__Height hs6.blk, L_api_Block__Data hs6.blk]
    exact hR _ _ ⟨_, rfl, hs6.tail.tail.tail.nil⟩
  rcases Blk.chk_or b with h0 | h0
  · have hck := Blk.chk_ok h0
    by_cases hm : b.h = maxI
    · have e : (b.h == 9223372036854775807) = true := by simpa using hm
      simp only [h0, e, fx, Nat.reduceAdd, forall_const, L_api_Block (Sep.p2 hs5).blk, L_api_Block__Parent (Sep.p2 hs5).blk, L_api_Block__Height (Sep.p2 hs5).blk, L_api_Block__Data (Sep.p2 hs5).blk, B_api_Block, show ((0 : Int) != 0) = false from rfl]
      exact bad fun hk => hk.2.1 hm
    · have e : (b.h == 9223372036854775807) = false := by simpa using hm
      have hn : b.name = b.id := by rw [Blk.name, if_pos h0]
      have hlt : b.h < 9223372036854775807 := by unfold maxI at hh hm; omega
      by_cases h2 : 200 < d.length
      · have e2 : decide ((200 : Int) < d.length) = true := by simp; omega
        simp only [h0, e, hld, e2, fx, Nat.reduceAdd, forall_const, L_api_Block (Sep.p2 hs5).blk, L_api_Block__Parent (Sep.p2 hs5).blk, L_api_Block__Height (Sep.p2 hs5).blk, L_api_Block__Data (Sep.p2 hs5).blk, L_api_ID hs5.blk, B_api_Block, show ((0 : Int) != 0) = false from rfl]
        exact bad fun hk => by have := hk.2.2; omega
      · have e2 : decide ((200 : Int) < d.length) = false := by simp; omega
        have hk : b.kidOk d := ⟨h0, hm, by omega⟩
        have hkd : (b.child d).d = d := by rw [Blk.child, if_pos hk]; rfl
        simp only [h0, e, hld, e2, fx, Nat.reduceAdd, forall_const, L_api_Block (Sep.p2 hs5).blk, L_api_Block__Parent (Sep.p2 hs5).blk, L_api_Block__Height (Sep.p2 hs5).blk, L_api_Block__Data (Sep.p2 hs5).blk, L_api_ID hs5.blk, show ((0 : Int) != 0) = false from rfl]
        rw [wi64 (by omega) (by omega), B_api_Block_0_1_2 hd.one, hn]
        have ek : Value.agg (Rdr.cells Q_api_Block (b.id, b.h + 1, u)).toArray = bq (b.child d) u := by rw [Blk.child, if_pos hk]; rfl
        rw [ek]
        rw [Blk.childE, if_pos hk] at hR
        generalize b.child d = k at *
        refine cal_i (rbClone_spec (b := k) (by rw [hkd]; exact hs5.rdB hd) (by rw [hkd]; omega)) ?_
        rintro _ w6 ⟨v', rfl, hs6⟩
        replace hs6 := (hs5.join hs6).p2
        refine St_api_Block hs6 (one_api_Block (Sep.one hs6.p1)) fun w7 hs7 => ?_
        simp only [L_api_Block hs7.blk, L_api_Block__Parent hs7.blk, L_api_Block__Height hs7.blk, L_api_Block__Data hs7.blk]
        exact hR _ _ ⟨v', rfl, hs7.p1.d1.d1.d1⟩
  · simp only [h0, fx, Nat.reduceAdd, forall_const, B_api_Block, show ((30 : Int) != 0) = true from rfl]
    exact bad fun hk => by have := hk.1; omega
theorem Linked_spec (hc : Cub w) (ha : RdB w.heap u a.d) (hb : RdB w.heap v b.d) (hh : b.h ≤ maxI) (hha : a.h ≤ maxI) : cal P f_block_Linked [bq a u, bq b v] w fun r w' => r = .int .i64 (a.link b) ∧ Fr [] w w' := by
  refine s_block_Linked fun R hR => ?_
  unfold c_block_Linked
  refine bxQ (Sep.start w) fun g w1 hs => ?_
  refine bxQ hs fun g2 w2 hs2 => ?_
  simp only [L_api_Block hs2.blk, L_api_Block__Parent hs2.blk, L_api_Block__Height hs2.blk, L_api_Block__Data hs2.blk]
  refine cal_i (bkID_spec (hc.fr hs2.fr0) (hs2.rdB hb) hh) ?_
  rintro _ w3 ⟨rfl, hf3⟩
  have hs3 := hs2.old hf3
  simp only [fx, Nat.reduceAdd, forall_const]
  refine alloc_s hs3 (A_api_ID w3) fun g4 w4 hs4 => ?_
  refine St_api_ID hs4 fun w5 hs5 => ?_
  have fin : ∀ (c : Int) (w' : World), Fr [] w w' → a.link b = c → R (.int .i64 c) w' := fun c w' hf hcc => hR _ _ ⟨by rw [hcc], hf⟩
  rcases Blk.chk_or b with h0 | h0
  · have hck := Blk.chk_ok h0
    have hn : b.name = b.id := by rw [Blk.name, if_pos h0]
    simp only [h0, fx, Nat.reduceAdd, forall_const, L_api_Block (Sep.p2 hs5).blk, L_api_Block__Parent (Sep.p2 hs5).blk, L_api_Block__Height (Sep.p2 hs5).blk, L_api_Block__Data (Sep.p2 hs5).blk, show ((0 : Int) != 0) = false from rfl]
    refine jn1_dup ?_
    refine cal_i (Check_spec (hs5.rdB ha)) ?_
    rintro _ w6 ⟨rfl, hf6⟩
    have hs6 := hs5.old hf6
    have hf := hs6.fr0
    rcases Blk.chk_or a with h1 | h1
    · have hca := Blk.chk_ok h1
      have hlk : a.link b = if a.p = b.id ∧ a.h = b.h + 1 then 0 else 31 := by rw [Blk.link, if_neg (by simp [h0, h1])]
      simp only [h1, fx, Nat.reduceAdd, forall_const, hn, L_api_Block (Sep.p2 hs6).blk, L_api_Block__Parent (Sep.p2 hs6).blk, L_api_Block__Height (Sep.p2 hs6).blk, L_api_Block__Data (Sep.p2 hs6).blk, L_api_Block (Sep.p1 hs6).blk, L_api_Block__Parent (Sep.p1 hs6).blk, L_api_Block__Height (Sep.p1 hs6).blk, L_api_Block__Data (Sep.p1 hs6).blk, L_api_ID hs6.blk, ne_api_ID, show ((0 : Int) != 0) = false from rfl]
      by_cases hp : a.p = b.id
      · by_cases hm : b.h = maxI
        · have e : (b.h == 9223372036854775807) = true := by simpa using hm
          simp only [hp, e, decide_true, fx, Nat.reduceAdd, forall_const]
          refine fin 31 _ hf ?_
          rw [hlk, if_neg]
          rintro ⟨_, h2⟩
          omega
        · have e : (b.h == 9223372036854775807) = false := by simpa using hm
          have hlt : b.h < 9223372036854775807 := by unfold maxI at hh hm; omega
          simp only [hp, e, decide_true, fx, Nat.reduceAdd, forall_const]
          rw [wi64 (by omega) (by omega), cnd_bool]
          refine ⟨fun h2 => fin 31 _ hf ?_, fun h2 => fin 0 _ hf ?_⟩
          · have h2 : a.h ≠ b.h + 1 := by simpa using h2
            rw [hlk, if_neg fun h => h2 h.2]
          · have h2 : a.h = b.h + 1 := by simpa using h2
            rw [hlk, if_pos ⟨hp, h2⟩]
      · simp only [hp, decide_false, fx, Nat.reduceAdd, forall_const]
        refine fin 31 _ hf ?_
        rw [hlk, if_neg fun h => hp h.1]
    · simp only [h1, fx, Nat.reduceAdd, forall_const, show ((30 : Int) != 0) = true from rfl]
      exact fin 30 _ hf (by rw [Blk.link, if_pos (.inr (by omega))])
  · simp only [h0, fx, Nat.reduceAdd, forall_const, show ((30 : Int) != 0) = true from rfl]
    exact fin 30 _ hs5.fr0 (by rw [Blk.link, if_pos (.inl (by omega))])
theorem rbLinked_spec (ha : RdB w.heap u a.d) (hb : RdB w.heap v b.d) (hh : b.h ≤ maxI) (hha : a.h ≤ maxI) : cal P f_ref03_Linked [bq a u, bq b v] w fun r w' => r = .int .i64 (a.link b) ∧ Fr [] w w' := by
  refine s_ref03_Linked fun R hR => ?_
  unfold c_ref03_Linked
  refine bxQ (Sep.start w) fun g w1 hs => ?_
  refine bxQ hs fun g2 w2 hs2 => ?_
  simp only [L_api_Block hs2.blk, L_api_Block__Parent hs2.blk, L_api_Block__Height hs2.blk, L_api_Block__Data hs2.blk]
  refine cal_i (rbID_spec (hs2.rdB hb) hh) ?_
  rintro _ w3 ⟨rfl, hf3⟩
  have hs3 := hs2.old hf3
  simp only [fx, Nat.reduceAdd, forall_const]
  refine alloc_s hs3 (A_api_ID w3) fun g4 w4 hs4 => ?_
  refine St_api_ID hs4 fun w5 hs5 => ?_
  have fin : ∀ (c : Int) (w' : World), Fr [] w w' → a.link b = c → R (.int .i64 c) w' := fun c w' hf hcc => hR _ _ ⟨by rw [hcc], hf⟩
  rcases Blk.chk_or b with h0 | h0
  · have hck := Blk.chk_ok h0
    have hn : b.name = b.id := by rw [Blk.name, if_pos h0]
    simp only [h0, fx, Nat.reduceAdd, forall_const, L_api_Block (Sep.p2 hs5).blk, L_api_Block__Parent (Sep.p2 hs5).blk, L_api_Block__Height (Sep.p2 hs5).blk, L_api_Block__Data (Sep.p2 hs5).blk, show ((0 : Int) != 0) = false from rfl]
    refine jn1_dup ?_
    refine cal_i (rCheck_spec (hs5.rdB ha)) ?_
    rintro _ w6 ⟨rfl, hf6⟩
    have hs6 := hs5.old hf6
    have hf := hs6.fr0
    rcases Blk.chk_or a with h1 | h1
    · have hca := Blk.chk_ok h1
      have hlk : a.link b = if a.p = b.id ∧ a.h = b.h + 1 then 0 else 31 := by rw [Blk.link, if_neg (by simp [h0, h1])]
      simp only [h1, fx, Nat.reduceAdd, forall_const, hn, L_api_Block (Sep.p2 hs6).blk, L_api_Block__Parent (Sep.p2 hs6).blk, L_api_Block__Height (Sep.p2 hs6).blk, L_api_Block__Data (Sep.p2 hs6).blk, L_api_Block (Sep.p1 hs6).blk, L_api_Block__Parent (Sep.p1 hs6).blk, L_api_Block__Height (Sep.p1 hs6).blk, L_api_Block__Data (Sep.p1 hs6).blk, L_api_ID hs6.blk, ne_api_ID, show ((0 : Int) != 0) = false from rfl]
      by_cases hl : a.h < 1
      · simp only [hl, decide_true, fx, Nat.reduceAdd, forall_const]
        refine fin 31 _ hf ?_
        rw [hlk, if_neg]
        rintro ⟨_, h2⟩
        omega
      · simp only [hl, decide_false, fx, Nat.reduceAdd, forall_const]
        by_cases hp : a.p = b.id
        · unfold maxI at hh hha
          simp only [hp, decide_true, fx, Nat.reduceAdd, forall_const, L_api_Block (Sep.p2 hs6).blk, L_api_Block__Parent (Sep.p2 hs6).blk, L_api_Block__Height (Sep.p2 hs6).blk, L_api_Block__Data (Sep.p2 hs6).blk, L_api_Block (Sep.p1 hs6).blk, L_api_Block__Parent (Sep.p1 hs6).blk, L_api_Block__Height (Sep.p1 hs6).blk, L_api_Block__Data (Sep.p1 hs6).blk]
          rw [wi64 (by omega) (by omega), cnd_bool]
          refine ⟨fun h2 => fin 31 _ hf ?_, fun h2 => fin 0 _ hf ?_⟩
          · have h2 : a.h - 1 ≠ b.h := by simpa using h2
            rw [hlk, if_neg fun h => h2 (by omega)]
          · have h2 : a.h - 1 = b.h := by simpa using h2
            rw [hlk, if_pos ⟨hp, by omega⟩]
        · simp only [hp, decide_false, fx, Nat.reduceAdd, forall_const]
          refine fin 31 _ hf ?_
          rw [hlk, if_neg fun h => hp h.1]
    · simp only [h1, fx, Nat.reduceAdd, forall_const, show ((30 : Int) != 0) = true from rfl]
      exact fin 30 _ hf (by rw [Blk.link, if_pos (.inr (by omega))])
  · simp only [h0, fx, Nat.reduceAdd, forall_const, show ((30 : Int) != 0) = true from rfl]
    exact fin 30 _ hs5.fr0 (by rw [Blk.link, if_pos (.inl (by omega))])
end
end Go.Fx
set_option linter.unusedVariables false
set_option linter.unusedSimpArgs false
namespace Go.Fx
def vec32 (l : List UInt8) : Vec 32 := ⟨(l ++ List.replicate 32 0).take 32, by simp⟩
theorem vec32_of {l : List UInt8} (h : 32 ≤ l.length) : (vec32 l).1 = l.take 32 := by
  show (l ++ List.replicate 32 0).take 32 = _
  rw [List.take_append_of_le_length h]
def parB (l : List UInt8) : Blk := ⟨vec32 (l.drop 2), ofBe ((l.drop 34).take 8), l.drop 46⟩
def okP (l : List UInt8) : Prop := 46 ≤ l.length ∧ (parB l).h ≤ maxI ∧ (parB l).chk = 0 ∧ (parB l).bytes = l
instance (l : List UInt8) : Decidable (okP l) := by unfold okP; infer_instance
def parse (l : List UInt8) : Blk := if okP l then parB l else Blk.none
def parseE (l : List UInt8) : Int := if okP l then 0 else 30
/-- Bytes in parts. -/
theorem cut46 {l : List UInt8} (h : 46 ≤ l.length) : ∃ (a p x n d : List UInt8), l = a ++ (p ++ (x ++ (n ++ d))) ∧ a.length = 2 ∧ p.length = 32 ∧ x.length = 8 ∧ n.length = 4 := by
  refine ⟨l.take 2, (l.drop 2).take 32, (l.drop 34).take 8, (l.drop 42).take 4, l.drop 46, ?_, by simp; omega, by simp; omega, by simp; omega, by simp; omega⟩
  have e1 : l.drop 46 = (l.drop 42).drop 4 := by rw [List.drop_drop]
  have e2 : l.drop 42 = (l.drop 34).drop 8 := by rw [List.drop_drop]
  have e3 : l.drop 34 = (l.drop 2).drop 32 := by rw [List.drop_drop]
  rw [e1, List.take_append_drop, e2, List.take_append_drop, e3, List.take_append_drop, List.take_append_drop]
theorem parB_cut {a p x n d : List UInt8} (h1 : a.length = 2) (h2 : p.length = 32) (h3 : x.length = 8) (h4 : n.length = 4) : parB (a ++ (p ++ (x ++ (n ++ d)))) = ⟨⟨p, h2⟩, ofBe x, d⟩ := by
  have e1 : (a ++ (p ++ (x ++ (n ++ d)))).drop 2 = p ++ (x ++ (n ++ d)) := List.drop_left' h1
  have e2 : (a ++ (p ++ (x ++ (n ++ d)))).drop 34 = x ++ (n ++ d) := by rw [show 34 = 2 + 32 from rfl, ← List.drop_drop, e1, List.drop_left' h2]
  have e3 : (a ++ (p ++ (x ++ (n ++ d)))).drop 46 = d := by rw [show 46 = 34 + 8 + 4 from rfl, ← List.drop_drop, ← List.drop_drop, e2, List.drop_left' h3, List.drop_left' h4]
  unfold parB
  rw [e1, e2, e3, List.take_left' h3]
  congr 1
  apply Subtype.ext
  rw [vec32_of (by simp; omega), List.take_left' h2]
theorem be2_zero {a : List UInt8} (h1 : a.length = 2) (h : ofBe a = 0) : a = [0, 0] := by
  have := be_ofBe a
  rw [h1, h] at this
  exact this.symm
theorem ofBe_b4 {n : Nat} (h : n < 4294967296) : ofBe (be 4 n) = n := by rw [ofBe_be, Nat.mod_eq_of_lt (by simpa using h)]
theorem ofBe_b8 {n : Nat} (h : n < 18446744073709551616) : ofBe (be 8 n) = n := by rw [ofBe_be, Nat.mod_eq_of_lt (by simpa using h)]
/-- What is read is laid again: that must be these bytes. -/
theorem okP_cut {a p x n d : List UInt8} (h1 : a.length = 2) (h2 : p.length = 32) (h3 : x.length = 8) (h4 : n.length = 4) :
    okP (a ++ (p ++ (x ++ (n ++ d)))) ↔ ofBe a = 0 ∧ ofBe n = d.length ∧ (ofBe x : Int) ≤ maxI ∧ (⟨⟨p, h2⟩, ofBe x, d⟩ : Blk).chk = 0 := by
  unfold okP
  rw [parB_cut h1 h2 h3 h4]
  have hb : (⟨⟨p, h2⟩, ofBe x, d⟩ : Blk).bytes = [0, 0] ++ p ++ x ++ be 4 d.length ++ d := by
    unfold Blk.bytes
    simp only [Int.toNat_natCast]
    rw [show be 8 (ofBe x) = x by rw [← h3]; exact be_ofBe x]
  refine ⟨?_, ?_⟩
  · rintro ⟨_, hh, hc, he⟩
    have hck := Blk.chk_ok hc
    simp only at hck
    rw [hb] at he
    simp only [List.append_assoc] at he
    have e1 := List.append_inj he (by simp [h1])
    have e2 := List.append_inj e1.2 rfl
    have e3 := List.append_inj e2.2 rfl
    have e4 := List.append_inj e3.2 (by rw [be_length, h4])
    refine ⟨by rw [← e1.1]; rfl, ?_, hh, hc⟩
    rw [← e4.1, ofBe_b4 (by omega)]
  · rintro ⟨ha, hn, hh, hc⟩
    refine ⟨by simp; omega, hh, hc, ?_⟩
    rw [hb, be2_zero h1 ha, ← hn]
    have : be 4 (ofBe n) = n := by rw [← h4]; exact be_ofBe n
    rw [this]
    simp
theorem parse_bytes {b : Blk} (hc : b.chk = 0) (hh : b.h ≤ maxI) : okP b.bytes ∧ parB b.bytes = b := by
  have hck := Blk.chk_ok hc
  unfold maxI at hh
  have e : b.bytes = [0, 0] ++ (b.p.1 ++ (be 8 b.h.toNat ++ (be 4 b.d.length ++ b.d))) := by simp [Blk.bytes]
  have e8 : ofBe (be 8 b.h.toNat) = b.h.toNat := ofBe_b8 (by omega)
  have eb : (⟨⟨b.p.1, b.p.2⟩, (ofBe (be 8 b.h.toNat) : Nat), b.d⟩ : Blk) = b := by
    rw [e8, Int.toNat_of_nonneg hck.1]
  have ho := (okP_cut (a := [0, 0]) (p := b.p.1) (x := be 8 b.h.toNat) (n := be 4 b.d.length) (d := b.d) rfl b.p.2 (be_length ..) (be_length ..)).2 ⟨rfl, ofBe_b4 (by omega), by rw [e8]; unfold maxI; omega, by rw [eb]; exact hc⟩
  rw [e]
  refine ⟨ho, ?_⟩
  rw [parB_cut rfl b.p.2 (be_length ..) (be_length ..)]
  exact eb
theorem okP.len {l : List UInt8} (h : okP l) : l.length ≤ 246 := by
  have := (Blk.chk_ok h.2.2.1).2.1
  have hb := congrArg List.length h.2.2.2
  rw [Blk.bytes_len] at hb
  omega
section
variable {w0 w : World} {As : List Asn} {g o n n' : Nat} {cur : Array Value} {T : TypeId} {x : Value} {m : List UInt8}
/-- 'copy(a[:], x)', a an array in a variable. -/
theorem cpyBlk_s {P : Program} {t tx ty E : Nat} {K : Value → World → Prop} (hT : SlT P t E 1 1) (hs : Sep w0 w (blk g cur T :: As)) (ho : o + n ≤ cur.size) (hx : RdB w.heap x m) (hm : m.length = n)
    (h : ∀ w', Sep w0 w' (blk g (splice cur o (bvs m)) T :: As) → K (.int .i64 n) w') : efP P (Builtin.copy_ #[t, tx] ty #[.slice (some ⟨g, o, none⟩) n n', x]) w K := by
  obtain ⟨F, ⟨hb, rfl⟩, hk⟩ := hs.upd
  subst hm
  have hlm : (bvs m).length = m.length := by simp [bvs]
  have hund := hT.und
  have hle := Cel.lenOf (P := P) (w := w) hx
  have hload := Cel.load (P := P) (w := w) hx
  have hst := run_storeCells_at P g o T (bvs m) 0 cur w hb (by omega) (bvs_one m)
  simp only [Nat.add_zero] at hst
  rw [setRow_setBlk w g cur _ T (0, 0) hb] at hst
  refine ⟨_, setBlk w g (.cells (splice cur o (bvs m)) T (0, 0)), ?_, h _ (hk _ [g] (Go.Fx.blk g _ T) ⟨setBlk_self w g _ _ hb, rfl⟩ (fr_setBlk w g _) (Grew.refl _ _))⟩
  have hmin : Nat.min m.length m.length = m.length := Nat.min_self _
  simp only [Builtin.copy_, Sem.run_bind, Sem.run_pure, List.getElem?_toArray, List.getElem?_cons_zero, List.getElem?_cons_succ, run_underlying hund, Result.andThen_ok, hle, run_sizeOf hT.siz, hmin, hload]
  simp [goInt, hst, splice]
theorem Fld.cpy {α : Type} {r : Rdr α} {off k : Nat} {get : α → Vec k} {set : α → Vec k → α} (f : Fld r (rVec k) off get set) {P : Program} {t tx ty E : Nat} {K : Value → World → Prop} {a : α} (hT : SlT P t E 1 1) (hs : Sep w0 w (blk g (r.cells a).toArray T :: As))
    (hx : RdB w.heap x m) (hm : m.length = k) (h : ∀ w', Sep w0 w' (blk g (r.cells (set a ⟨m, hm⟩)).toArray T :: As) → K (.int .i64 k) w') : efP P (Builtin.copy_ #[t, tx] ty #[.slice (some ⟨g, off, none⟩) k n', x]) w K := by
  obtain ⟨pre, post, e1, e2, e3⟩ := f.spec a ⟨m, hm⟩
  rw [e1] at hs
  rw [e2] at h
  have hg : ((rVec k).cells (get a)).length = k := (rVec k).len _
  refine cpyBlk_s hT hs (by simp; omega) hx hm fun w' hs' => h w' ?_
  have := splice_mid (post := post) e3 (show (bvs m).length = ((rVec k).cells (get a)).length by rw [hg]; simp [bvs, hm])
  rw [this] at hs'
  exact hs'
end
end Go.Fx
set_option linter.unusedVariables false
set_option linter.unusedSimpArgs false
namespace Go.Fx
theorem notOk {l : List UInt8} (h : ¬ okP l) : parse l = Blk.none ∧ parseE l = 30 := by rw [parse, parseE, if_neg h, if_neg h]; exact ⟨rfl, rfl⟩
def R1 (l : List UInt8) := tk 2 l 0
def R2 (l : List UInt8) := tk 32 (R1 l).2.1 (R1 l).2.2
def R3 (l : List UInt8) := tk 8 (R2 l).2.1 (R2 l).2.2
def R4 (l : List UInt8) := ct 200 (R3 l).2.1 (R3 l).2.2
theorem run_good {l : List UInt8} (h : uend (R4 l).2.1 (R4 l).2.2 = 0) : ∃ (a p x n d : List UInt8), l = a ++ (p ++ (x ++ (n ++ d))) ∧ a.length = 2 ∧ p.length = 32 ∧ x.length = 8 ∧ n.length = 4 ∧ ofBe n = d.length ∧ d.length ≤ 200 ∧
    (R1 l).1 = a ∧ (R2 l).1 = p ∧ (R3 l).1 = x ∧ (R4 l).1 = d := by
  obtain ⟨h4, hnil⟩ := uend_ok h
  obtain ⟨h3, hl4, hm, hk, e4⟩ := ct_ok (show (ct 200 (R3 l).2.1 (R3 l).2.2).2.2 = 0 from h4)
  obtain ⟨h2, hl3, e3⟩ := tk_ok (show (tk 8 (R2 l).2.1 (R2 l).2.2).2.2 = 0 from h3)
  obtain ⟨h1, hl2, e2⟩ := tk_ok (show (tk 32 (R1 l).2.1 (R1 l).2.2).2.2 = 0 from h2)
  obtain ⟨_, hl1, e1⟩ := tk_ok (show (tk 2 l 0).2.2 = 0 from h1)
  have E1 : R1 l = (l.take 2, l.drop 2, 0) := e1
  have E2 : R2 l = _ := e2
  rw [E1] at E2 hl2
  have E3 : R3 l = _ := e3
  rw [E2] at E3 hl3
  have E4 : R4 l = _ := e4
  rw [E3] at E4 hl4 hk hm
  rw [E4] at hnil
  simp only [List.length_drop, List.drop_drop] at *
  have h46 : 46 ≤ l.length := by omega
  obtain ⟨a, p, x, n, d, hl, ha, hp, hx, hn⟩ := cut46 h46
  subst hl
  have d1 : (a ++ (p ++ (x ++ (n ++ d)))).drop 2 = p ++ (x ++ (n ++ d)) := List.drop_left' ha
  have d2 : (a ++ (p ++ (x ++ (n ++ d)))).drop (2 + 32) = x ++ (n ++ d) := by rw [← List.drop_drop, d1, List.drop_left' hp]
  have d3 : (a ++ (p ++ (x ++ (n ++ d)))).drop (2 + 32 + 8) = n ++ d := by rw [← List.drop_drop, d2, List.drop_left' hx]
  have d4 : (a ++ (p ++ (x ++ (n ++ d)))).drop (2 + 32 + 8 + 4) = d := by rw [← List.drop_drop, d3, List.drop_left' hn]
  rw [d3, List.take_left' hn] at hm hk hnil
  have hdl : d.length ≤ ofBe n := by
    have := congrArg List.length hnil
    simp only [List.length_drop, List.length_append, List.length_nil] at this
    omega
  simp only [List.length_append] at hk
  have hnd : ofBe n = d.length := by omega
  refine ⟨a, p, x, n, d, rfl, ha, hp, hx, hn, hnd, by omega, ?_, ?_, ?_, ?_⟩
  · rw [E1]; exact List.take_left' ha
  · rw [E2, d1]; exact List.take_left' hp
  · rw [E3, d2]; exact List.take_left' hx
  · rw [E4, d4, d3, List.take_left' hn]
    exact List.take_of_length_le (by omega)
theorem run_bad {l : List UInt8} (h : uend (R4 l).2.1 (R4 l).2.2 ≠ 0) : ¬ okP l := fun hok => by
  have hlen := hok.len
  obtain ⟨a, p, x, n, d, hl, ha, hp, hx, hn⟩ := cut46 hok.1
  subst hl
  obtain ⟨h1, h2, h3, h4⟩ := (okP_cut ha hp hx hn).1 hok
  apply h
  simp only [List.length_append] at hlen
  have E1 : R1 (a ++ (p ++ (x ++ (n ++ d)))) = (a, p ++ (x ++ (n ++ d)), 0) := tk_app ha
  have E2 : R2 (a ++ (p ++ (x ++ (n ++ d)))) = (p, x ++ (n ++ d), 0) := by rw [R2, E1]; exact tk_app hp
  have E3 : R3 (a ++ (p ++ (x ++ (n ++ d)))) = (x, n ++ d, 0) := by rw [R3, E2]; exact tk_app hx
  have E4 : R4 (a ++ (p ++ (x ++ (n ++ d)))) = (d, [], 0) := by rw [R4, E3]; exact ct_app hn h2 (by omega)
  rw [E4]
  rfl
theorem tk_rest (n : Nat) (b : List UInt8) (e : Int) : (tk n b e).2.1.length ≤ b.length := by unfold tk; split <;> (try split) <;> simp
section
variable {w0 w : World} {As : List Asn} {v : Value} {l : List UInt8}
theorem Parse_spec (hb : RdB w.heap v l) : cal P f_block_Parse [v] w fun r w' => ∃ v', r = .tuple #[bq (parse l) v', .int .i64 (parseE l)] ∧ Sep w w' [ownB v' (parse l).d] := by
  refine s_block_Parse fun R hR => ?_
  unfold c_block_Parse
  refine alloc_s (Sep.start w) (A_api_Block w) fun g2 w1 hs => ?_
  have bad : ¬ okP l → ∀ {w2 : World} {As}, Sep w w2 (blk g2 (Rdr.cells Q_api_Block (vz 32, (0 : Int), Value.slice none 0 0)).toArray T_api_Block :: As) → stN 34 (.pointer (some ⟨g2, 0, none⟩)) (bq Blk.none (.slice none 0 0)) w2 fun w => ldN 34 (.pointer (some ⟨g2, 0, none⟩)) w.heap fun r1 => R (.tuple #[r1, .int .i64 30]) w := fun hn w2 As hs => by
    rw [(notOk hn).1, (notOk hn).2] at hR
    refine St_api_Block hs (one_api_Block rfl) fun w6 hs6 => ?_
    simp only [L_api_Block hs6.blk, L_api_Block__Parent hs6.blk, L_api_Block__Height hs6.blk, L_api_Block__Data hs6.blk]
    refine hR _ _ ⟨_, rfl, ?_⟩
    exact (Sep.start w).old hs6.fr0 |>.nil
  have hlv := hb.len
  simp only [fx, Nat.reduceAdd, forall_const, hlv, B_api_Block]
  rw [cnd_bool]
  refine ⟨fun h => ?_, fun h => ?_⟩
  · have h : 246 < l.length := by simp at h; omega
    exact bad (fun hk => by have := hk.len; omega) hs
  · have h : l.length ≤ 246 := by simp at h; omega
    refine cal_i (ReadS (hs.rdB hb) (by omega)) ?_
    rintro _ w2 ⟨g, s1, rfl, hs2⟩
    replace hs2 := hs.join hs2
    refine cal_i (uShortS hs2) ?_
    rintro v3 w3 ⟨hv3, s3, hs3⟩
    obtain rfl : v3 = .int .u16 ((ofBe (R1 l).1 : Nat) : Int) := hv3
    refine cal_i (uFixedS (n := 32) hs3 (by omega)) ?_
    rintro v4 w4 ⟨s4, hs4⟩
    replace hs4 := hs4.q2
    refine cal_i (uLongS hs4) ?_
    rintro v5 w5 ⟨hv5, s5, hs5⟩
    obtain rfl : v5 = .int .u64 ((ofBe (R3 l).1 : Nat) : Int) := hv5
    have hl3 : (R3 l).2.1.length ≤ 246 := Nat.le_trans (tk_rest _ _ _) (Nat.le_trans (tk_rest _ _ _) (Nat.le_trans (tk_rest _ _ _) h))
    refine cal_i (uBytesS (n := 200) hs5 (by omega) (Nat.le_trans hl3 (by omega))) ?_
    rintro v6 w6 ⟨s6, hs6⟩
    replace hs6 : Sep w w6 (ownB v6 (R4 l).1 :: uk g s6 (R4 l).2.2 :: ownB s6 (R4 l).2.1 :: ownB v4 (R2 l).1 :: blk g2 (Rdr.cells Q_api_Block (vz 32, (0 : Int), Value.slice none 0 0)).toArray T_api_Block :: []) := hs6
    refine cal_i (EndS hs6.q2) ?_
    rintro _ _ ⟨rfl, rfl⟩
    by_cases hu : uend (R4 l).2.1 (R4 l).2.2 = 0
    · obtain ⟨a, p, x, n, d, rfl, ha, hp, hx, hn, hnd, hd, e1, e2, e3, e4⟩ := run_good hu
      have hiff := okP_cut (d := d) ha hp hx hn
      have hpb := parB_cut (d := d) ha hp hx hn
      rw [e2, e4] at hs6
      generalize a ++ (p ++ (x ++ (n ++ d))) = l at *
      have hxl := ofBe_lt x
      rw [hx] at hxl
      simp only [hu, e1, e3, fx, Nat.reduceAdd, forall_const, show ((0 : Int) != 0) = false from rfl]
      by_cases hv : ofBe a = 0
      · simp only [hv, fx, Nat.reduceAdd, forall_const, Int.natCast_zero, show ((0 : Int) != 0) = false from rfl]
        rw [cnd_bool]
        refine ⟨fun hh => ?_, fun hh => ?_⟩
        · have hh : 9223372036854775807 < (ofBe x : Int) := by simpa using hh
          exact bad (fun hk => by have := (hiff.1 hk).2.2.1; unfold maxI at this; omega) hs6.p4
        · have hh : (ofBe x : Int) ≤ maxI := by unfold maxI; simpa using hh
          rw [wi64 (by omega) (by unfold maxI at hh; omega), B_api_Block_1_2 (Sep.one hs6)]
          refine alloc_s hs6 (A_api_Block _) fun g7 w7 hs7 => ?_
          refine St_api_Block hs7 (one_api_Block (Sep.one hs7.p1)) fun w8 hs8 => ?_
          simp only [fx, Nat.reduceAdd, forall_const, sla_all]
          refine Fld.cpy (r := Q_api_Block) (Fld.fst Fld.self) S_sl_uint8 hs8 (Sep.rd hs8.p4) hp fun w9 hs9 => ?_
          obtain ⟨b, hbb⟩ : ∃ b, b = parB l := ⟨_, rfl⟩
          have hb1 : b = ⟨⟨p, hp⟩, ofBe x, d⟩ := by rw [hbb, hpb]
          have e5 : Rdr.cells Q_api_Block ((⟨p, hp⟩ : Vec 32), ((ofBe x : Nat) : Int), v6) = Rdr.cells Q_api_Block (b.p, b.h, v6) := by rw [hb1]
          have hs9' : Sep w w9 (blk g7 (Rdr.cells Q_api_Block (b.p, b.h, v6)).toArray T_api_Block :: ownB v6 d :: uk g s6 (R4 l).2.2 :: ownB s6 (R4 l).2.1 :: ownB v4 p :: blk g2 (Rdr.cells Q_api_Block (vz 32, (0 : Int), Value.slice none 0 0)).toArray T_api_Block :: []) := by rw [← e5]; exact hs9
          have hbd : b.d = d := by rw [hb1]
          simp only [L_api_Block hs9'.blk, L_api_Block__Parent hs9'.blk, L_api_Block__Height hs9'.blk, L_api_Block__Data hs9'.blk]
          refine cal_i (made_spec (b := b) (by rw [hbd]; exact Sep.rd hs9'.p1)) ?_
          rintro _ w10 ⟨v', rfl, hs10⟩
          replace hs10 := (hs9'.join hs10).pick [6, 0] 7
          simp only [fx, Nat.reduceAdd, forall_const]
          refine St_api_Block hs10 (one_api_Block (Sep.one hs10.p1)) fun w11 hs11 => ?_
          simp only [L_api_Block hs11.blk, L_api_Block__Parent hs11.blk, L_api_Block__Height hs11.blk, L_api_Block__Data hs11.blk]
          have hp1 : parse l = b.mk' := by
            rw [hbb]
            by_cases hk : okP l
            · rw [parse, if_pos hk, Blk.mk', if_pos hk.2.2.1]
            · have : ¬ (parB l).chk = 0 := fun hc => hk (hiff.2 ⟨hv, hnd, hh, by rw [← hpb]; exact hc⟩)
              rw [parse, if_neg hk, Blk.mk', if_neg this]
          have hp2 : parseE l = b.chk := by
            rw [hbb]
            by_cases hk : okP l
            · rw [parseE, if_pos hk, hk.2.2.1]
            · have : ¬ (parB l).chk = 0 := fun hc => hk (hiff.2 ⟨hv, hnd, hh, by rw [← hpb]; exact hc⟩)
              rw [parseE, if_neg hk]
              rcases Blk.chk_or (parB l) with h0 | h0
              · exact absurd h0 this
              · exact h0.symm
          rw [hp1, hp2] at hR
          exact hR _ _ ⟨v', rfl, hs11.tail⟩
      · have e5 : (((ofBe a : Nat) : Int) != 0) = true := by simpa using hv
        simp only [e5, fx, Nat.reduceAdd, forall_const]
        exact bad (fun hk => hv (hiff.1 hk).1) hs6.p4
    · have e5 : (uend (R4 l).2.1 (R4 l).2.2 != 0) = true := by simpa using hu
      simp only [e5, fx, Nat.reduceAdd, forall_const]
      exact bad (run_bad hu) hs6.p4
end
end Go.Fx
set_option linter.unusedVariables false
set_option linter.unusedSimpArgs false
namespace Go.Fx
section
variable {w0 w : World} {As : List Asn} {v : Value} {l : List UInt8}
theorem rParse_spec (hb : RdB w.heap v l) (hcap : capOk v) (hln : l.length ≤ 9223372036854775807) : cal P f_ref03_Parse [v] w fun r w' => ∃ v', r = .tuple #[bq (parse l) v', .int .i64 (parseE l)] ∧ Sep w w' [ownB v' (parse l).d] := by
  refine s_ref03_Parse fun R hR => ?_
  unfold c_ref03_Parse
  refine alloc_s (Sep.start w) (A_api_Block w) fun g2 w1 hs => ?_
  have bad : ¬ okP l → ∀ {w2 : World} {As}, Sep w w2 (blk g2 (Rdr.cells Q_api_Block (vz 32, (0 : Int), Value.slice none 0 0)).toArray T_api_Block :: As) → stN 34 (.pointer (some ⟨g2, 0, none⟩)) (bq Blk.none (.slice none 0 0)) w2 fun w => ldN 34 (.pointer (some ⟨g2, 0, none⟩)) w.heap fun r1 => R (.tuple #[r1, .int .i64 30]) w := fun hn w2 As hs => by
    rw [(notOk hn).1, (notOk hn).2] at hR
    refine St_api_Block hs (one_api_Block rfl) fun w6 hs6 => ?_
    simp only [L_api_Block hs6.blk, L_api_Block__Parent hs6.blk, L_api_Block__Height hs6.blk, L_api_Block__Data hs6.blk]
    refine hR _ _ ⟨_, rfl, ?_⟩
    exact (Sep.start w).old hs6.fr0 |>.nil
  have hlv := hb.len
  simp only [fx, Nat.reduceAdd, forall_const, hlv, B_api_Block]
  rw [cnd_bool]
  refine ⟨fun h => ?_, fun h => ?_⟩
  · have h : l.length < 46 := by simp at h; omega
    exact bad (fun hk => by have := hk.1; omega) hs
  have h : 46 ≤ l.length := by simp at h; omega
  obtain ⟨av, cv, rfl⟩ := hb.form
  have hcv : l.length ≤ cv := hcap _ _ _ rfl
  obtain ⟨x, hxx⟩ : ∃ x, x = (l.drop 34).take 8 := ⟨_, rfl⟩
  obtain ⟨hw, hhw⟩ : ∃ hw, hw = IntKind.i64.wrap ((ofBe x : Nat) : Int) := ⟨_, rfl⟩
  obtain ⟨u, huu⟩ : ∃ u, u = Value.slice (if cv = 46 then av else av.map (·.add (46 * 1))) (l.length - 46) (cv - 46) := ⟨_, rfl⟩
  have hu : ∀ z : World, RdB z.heap (.slice av l.length cv) l → RdB z.heap u (l.drop 46) := fun z hz => by rw [huu]; exact hz.drop h hcv (cv - 46)
  have hu1 : u.oneCell' = true := by rw [huu]; split <;> rfl
  refine drH_T hs fun w2 hs2 _ => ?_
  refine ⟨fun t w' => ∃ g4, t = .pointer (some ⟨g4, 0, none⟩) ∧ Sep w w' (blk g4 (Rdr.cells Q_api_Block (vz 32, hw, u)).toArray T_api_Block :: blk g2 (Rdr.cells Q_api_Block (vz 32, (0 : Int), Value.slice none 0 0)).toArray T_api_Block :: []), ?_, ?_⟩
  · change slc 1 _ _ _ _
    rw [show (Value.int .i64 34) = .int .i64 ((34 : Nat) : Int) from rfl, show (Value.int .i64 42) = .int .i64 ((42 : Nat) : Int) from rfl, slc_mid (by omega) (by omega), show (Value.int .i64 46) = .int .i64 ((46 : Nat) : Int) from rfl, slc_from h, ← huu]
    have hv : ∀ {z : World} {As}, Sep w z As → RdB z.heap (Value.slice (if cv = 34 then av else av.map (·.add (34 * 1))) (42 - 34) (cv - 34)) x := fun {z As} hz => by
      rw [hxx]
      exact ((hz.rdB hb).drop (k := 34) (by omega) hcv (cv - 34)).take (k := 8) (by omega) (cv - 34)
    have hx8 : x.length = 8 := by rw [hxx]; simp; omega
    refine ⟨efC_calT (cal_i (rVal_spec (hv hs2) (by omega)) ?_), efS_i (alloc_s hs2 (A_api_Block w2) fun g4 w3 hs3 => ⟨trivial, efC_calT (cal_i (rVal_spec (hv hs3) (by omega)) ?_)⟩), trivial⟩
    · rintro _ _ ⟨rfl, rfl⟩
      rw [cvi_int, ← hhw]
      refine ⟨_, fun z _ => (B_api_Block_1_2 hu1 _).mpr rfl, ?_⟩
      refine efS_i (alloc_s hs2 (A_api_Block w2) fun g4 w3 hs3 => ⟨trivial, ?_⟩)
      refine efC_stN (St_api_Block hs3 (one_api_Block hu1) fun w4 hs4 => ⟨g4, rfl, hs4⟩)
    · rintro _ _ ⟨rfl, rfl⟩
      rw [cvi_int, ← hhw]
      refine ⟨_, fun z _ => (B_api_Block_1_2 hu1 _).mpr rfl, ?_⟩
      refine efC_stN (St_api_Block hs3 (one_api_Block hu1) fun w4 hs4 => ⟨g4, rfl, hs4⟩)
  · rintro _ w3 ⟨g4, rfl, hs3⟩ _
    obtain ⟨p, hpp⟩ : ∃ p, p = vec32 (l.drop 2) := ⟨_, rfl⟩
    have hpv : p.1 = (l.drop 2).take 32 := by rw [hpp]; exact vec32_of (by simp; omega)
    have hpl := p.2
    have pv : ∀ i, i ≤ 32 → ∃ q : Vec 32, q.1 = part p.1 i := fun i hi => ⟨⟨part p.1 i, by rw [part_len _ (by omega), hpl]⟩, rfl⟩
    refine ⟨fun y w' => ∃ (i : Nat) (q : Vec 32), y = .int .i64 i ∧ i ≤ 32 ∧ q.1 = part p.1 i ∧ Sep w w' (blk g4 (Rdr.cells Q_api_Block (q, hw, u)).toArray T_api_Block :: blk g2 (Rdr.cells Q_api_Block (vz 32, (0 : Int), Value.slice none 0 0)).toArray T_api_Block :: []),
      fun y _ => (32 - RowKit.intOf y).toNat, ⟨0, vz 32, rfl, by omega, by rw [part_zero, hpl]; rfl, hs3⟩, ?_⟩
    rintro _ w4 ⟨i, q, rfl, hi, hq, hs4⟩ -
    simp only [fx, Nat.reduceAdd, forall_const]
    rw [cnd_bool]
    refine ⟨fun hlt => ?_, fun hlt => ?_⟩
    · have h32 : i < 32 := by simp at hlt; omega
      have e : IntKind.i64.wrap (2 + (i : Int)) = ((2 + i : Nat) : Int) := by rw [wi64 (by omega) (by omega)]; omega
      rw [e]
      refine ldxB (hs4.rdB hb) (by omega) ?_
      rw [ixa_w .i64 h32]
      have hby : p.1[i]? = some (l[2 + i]'(by omega)) := by
        rw [hpv, List.getElem?_take_of_lt h32, List.getElem?_drop, List.getElem?_eq_getElem (by omega)]
      obtain ⟨q', hq'⟩ := pv (i + 1) (by omega)
      have e1 : Rdr.cells Q_api_Block (q, hw, u) = bvs (part p.1 i) ++ [.int .i64 hw, u] := by rw [← hq]; rfl
      have e2 : Rdr.cells Q_api_Block (q', hw, u) = bvs (part p.1 (i + 1)) ++ [.int .i64 hw, u] := by rw [← hq']; rfl
      rw [e1] at hs4
      have hpi := part_len p.1 (i := i) (by omega)
      refine st1_s hs4 (by simp [bvs]; omega) rfl fun w5 hs5 => ?_
      have e3 : (bvs (part p.1 i) ++ [.int .i64 hw, u]).toArray.setIfInBounds i (bv (l[2 + i]'(by omega))) = (Rdr.cells Q_api_Block (q', hw, u)).toArray := by
        rw [e2, ← part_set hby]
        apply Array.ext'
        simp only [Array.toList_setIfInBounds]
        rw [List.set_append_left _ _ (by simp [bvs]; omega)]
        simp [bvs, List.map_set]
      rw [e3] at hs5
      rw [wi64 (by omega) (by omega)]
      exact ⟨⟨i + 1, q', by simp, by omega, hq', hs5⟩, by simp [RowKit.intOf]; omega⟩
    · have h32 : i = 32 := by simp at hlt; omega
      subst h32
      have hqp : q = p := by
        apply Subtype.ext
        rw [hq]
        have := part_all (o := p.1)
        rwa [hpl] at this
      subst hqp
      obtain ⟨b, hbb⟩ : ∃ b : Blk, b = ⟨q, hw, l.drop 46⟩ := ⟨_, rfl⟩
      have e1 : Rdr.cells Q_api_Block (q, hw, u) = Rdr.cells Q_api_Block (b.p, b.h, u) := by rw [hbb]
      have hbd : b.d = l.drop 46 := by rw [hbb]
      have hbh : b.h = hw := by rw [hbb]
      rw [e1] at hs4
      have hhm : hw ≤ maxI := by
        have hxl := ofBe_lt x
        have hx8 : x.length = 8 := by rw [hxx]; simp; omega
        rw [hx8] at hxl
        rw [hhw, IntKind.wrap_i64]
        unfold maxI
        omega
      have hrd : ∀ {z : World} {As}, Sep w z As → RdB z.heap u b.d := fun {z As} hz => by rw [hbd]; exact hu _ (hz.rdB hb)
      simp only [L_api_Block hs4.blk, L_api_Block__Parent hs4.blk, L_api_Block__Height hs4.blk, L_api_Block__Data hs4.blk]
      refine cal_i (rbBytes_spec (b := b) (hrd hs4) (by rw [hbh]; exact hhm)) ?_
      rintro _ w5 ⟨s5, rfl, hs5⟩
      replace hs5 := hs4.join hs5
      simp only [fx, Nat.reduceAdd, forall_const]
      -- whether it may be
      have hokh : okP l → b = parB l := fun hk => by
        have h2 := hk.2.1
        rw [hbb, parB, hhw, hxx, hpp]
        congr 1
        exact wi64 (by omega) h2
      have hbok : b.chk = 0 → b.bytes = l → okP l := fun hc he => by
        have hck := Blk.chk_ok hc
        have := (parse_bytes hc (by rw [hbh]; exact hhm)).1
        rwa [he] at this
      rcases Blk.chk_or b with h0 | h0
      · have hck := Blk.chk_ok h0
        have ho : b.out = b.bytes := by rw [Blk.out, if_pos h0]
        rw [ho] at hs5
        simp only [h0, fx, Nat.reduceAdd, forall_const, show ((0 : Int) != 0) = false from rfl]
        refine jn1_dup ?_
        rw [rdP_eq (conv_str UT_bytes UT_uint8 UT_string (Sep.rd hs5)), rdP_eq (conv_str UT_bytes UT_uint8 UT_string (hs5.rdB hb)), neS_str]
        intro _
        rw [cnd_bool]
        refine ⟨fun he => ?_, fun he => ?_⟩
        · have he : b.bytes ≠ l := by simpa using he
          exact bad (fun hk => he (by rw [hokh hk]; exact hk.2.2.2)) (hs5.pick [2] 3)
        · have he : b.bytes = l := by simpa using he
          have hk := hbok h0 he
          have hp : parse l = b := by rw [parse, if_pos hk, hokh hk]
          have hpe : parseE l = 0 := by rw [parseE, if_pos hk]
          rw [hp, hpe] at hR
          simp only [L_api_Block (Sep.p1 hs5).blk, L_api_Block__Parent (Sep.p1 hs5).blk, L_api_Block__Height (Sep.p1 hs5).blk, L_api_Block__Data (Sep.p1 hs5).blk]
          refine cal_i (rbClone_spec (b := b) (hrd hs5) (by omega)) ?_
          rintro _ w6 ⟨v', rfl, hs6⟩
          replace hs6 := (hs5.join hs6).pick [3, 0] 4
          refine St_api_Block hs6 (one_api_Block (Sep.one hs6.p1)) fun w7 hs7 => ?_
          simp only [L_api_Block hs7.blk, L_api_Block__Parent hs7.blk, L_api_Block__Height hs7.blk, L_api_Block__Data hs7.blk]
          exact hR _ _ ⟨v', rfl, hs7.tail⟩
      · simp only [h0, fx, Nat.reduceAdd, forall_const, show ((30 : Int) != 0) = true from rfl]
        exact bad (fun hk => by rw [hokh hk, hk.2.2.1] at h0; cases h0) (hs5.pick [2] 3)
end
end Go.Fx
set_option linter.unusedVariables false
set_option linter.unusedSimpArgs false
namespace Go.Fx
abbrev BV := Blk × Value
def BV.t (x : BV) : Vec 32 × Int × Value := (x.1.p, x.1.h, x.2)
/-- A slice of blocks, each with what its data read as. -/
def BRows (h : Heap) (v : Value) (l : List BV) : Prop := Rows' Q_api_Block h v (l.map BV.t) ∧ ∀ x ∈ l, RdB h x.2 x.1.d
theorem BRows.fr {w w' : World} {v : Value} {l : List BV} (h : BRows w.heap v l) (hf : Fr [] w w') : BRows w'.heap v l := ⟨h.1.fr hf, fun x hx => (h.2 x hx).fr hf (off_nil _)⟩
theorem BRows.len {h : Heap} {v : Value} {l : List BV} (hr : BRows h v l) (K : Value → Prop) : lenS v K = K (.int .i64 l.length) := by
  have := hr.1.len K
  rwa [List.length_map] at this
/-- 'l[j]'. -/
theorem BRows.ld {w : World} {v : Value} {l : List BV} {j : Nat} {x : BV} (hr : BRows w.heap v l) (hj : l[j]? = some x) (k : IntKind) {K : Value → Prop} (h : K (bq x.1 x.2)) : ixs 34 v (.int k (j : Int)) fun t => ldN 34 t w.heap K := by
  have : (l.map BV.t)[j]? = some x.t := by rw [List.getElem?_map, hj]; rfl
  exact Rows'.ldN (q := Q_api_Block) (by decide) hr.1 this k h
theorem qV (a : Vec 32 × Int × Value) : (Value.agg (Rdr.cells Q_api_Block a).toArray).cells = (Rdr.cells Q_api_Block a).toArray := rfl
section
variable {w0 w : World} {As : List Asn} {v : Value}
def ga : Blk := Blk.first [103]
/-- A block that is an argument. -/
abbrev ab (x : Vec 32 × Int × Sl UInt8) : Blk := ⟨x.1, x.2.1, x.2.2.l⟩
theorem ab_rd {h : Heap} {x : Vec 32 × Int × Sl UInt8} (hx : Rdr.ok R_api_Block h x) : RdB h x.2.2.v (ab x).d := hx.2.2.1
theorem ab_h {h : Heap} {x : Vec 32 × Int × Sl UInt8} (hx : Rdr.ok R_api_Block h x) : (ab x).h ≤ maxI := by
  have := Go.bounds_i64 hx.2.1
  unfold maxI
  show x.2.1 ≤ _
  omega
theorem ab_len {h : Heap} {x : Vec 32 × Int × Sl UInt8} (hx : Rdr.ok R_api_Block h x) : (ab x).d.length ≤ 9223372036854775807 := hx.2.2.2.1
end
end Go.Fx
set_option linter.unusedVariables false
set_option linter.unusedSimpArgs false
namespace Go.Fx
/-- What stands ahead of a record's tail. -/
def Blk.hd (b : Blk) : List UInt8 := be 4 b.bytes.length ++ be 8 b.h.toNat ++ b.bytes
def tail8 (l : List UInt8) : List UInt8 := (shaM l).1.take 8
def Blk.rcd (b : Blk) : List UInt8 := b.hd ++ tail8 b.hd
def Blk.recO (b : Blk) : List UInt8 := if b.chk = 0 then b.rcd else []
theorem tail8_len (l : List UInt8) : (tail8 l).length = 8 := by unfold tail8; rw [List.length_take, (shaM l).2]; rfl
theorem Blk.hd_len (b : Blk) : b.hd.length = 58 + b.d.length := by
  unfold Blk.hd
  simp only [List.length_append, be_length, Blk.bytes_len]
  omega
theorem Blk.rec_len (b : Blk) : b.rcd.length = 66 + b.d.length := by
  unfold Blk.rcd
  rw [List.length_append, Blk.hd_len, tail8_len]
  omega
theorem Blk.recO_len (b : Blk) : b.recO.length = if b.chk = 0 then 66 + b.d.length else 0 := by
  unfold Blk.recO
  split
  · exact Blk.rec_len b
  · rfl
theorem Blk.recO_le (b : Blk) : b.recO.length ≤ 266 := by
  rw [Blk.recO_len]
  split
  · rename_i h
    have := Blk.chk_ok h
    omega
  · omega
/-- 'x[:j]', x an array. -/
theorem sla_to {size g len j : Nat} (hj : j ≤ len) (K : Value → Prop) : sla len size (.pointer (some ⟨g, 0, none⟩)) none (some (.int .i64 (j : Int))) K = K (.slice (some ⟨g, 0, none⟩) j len) := by
  have e : (if len = 0 then (⟨g, 0, none⟩ : Addr) else Addr.add ⟨g, 0, none⟩ (0 * size)) = ⟨g, 0, none⟩ := by
    split
    · rfl
    · rw [Nat.zero_mul, Addr_add_mk, Nat.add_zero]
  refine propext ⟨?_, fun hk => ⟨_, rfl, ?_⟩⟩
  · rintro ⟨a, ha, hk⟩
    cases ha
    obtain ⟨k, j', hj', h0, h1, hk⟩ := hk
    cases hj'
    simp only [bndO, e, Nat.sub_zero, Int.toNat_natCast] at hk
    exact hk
  · refine ⟨.i64, (j : Int), rfl, by omega, by omega, ?_⟩
    simp only [bndO, e, Nat.sub_zero, Int.toNat_natCast]
    exact hk
section
variable {w0 w z : World} {As : List Asn} {v : Value} {b : Blk}
/-- An array's first bytes. -/
theorem rd_arr {g n c k : Nat} {a : Vec n} {T : TypeId} (h : Sep w0 z (blk g (Rdr.cells (rVec n) a).toArray T :: As)) (hk : k ≤ n) : RdB z.heap (.slice (some ⟨g, 0, none⟩) k c) (a.1.take k) := by
  have hat : At z.heap g 0 (bvs a.1) := At.blk (cs := Rdr.cells (rVec n) a) h.blk
  have := At.rd (c := c) hat
  rw [a.2] at this
  exact this.take hk c
theorem recBytes_spec (hc : Cub w) (hb : RdB w.heap v b.d) (hh : b.h ≤ maxI) : cal P f_rec_Bytes [bq b v] w fun r w' => ∃ s, r = .tuple #[s, .int .i64 b.chk] ∧ Sep w w' [ownB s b.recO] := by
  refine s_rec_Bytes fun R hR => ?_
  unfold c_rec_Bytes
  refine bxQ (Sep.start w) fun g w1 hs => ?_
  simp only [L_api_Block hs.blk, L_api_Block__Parent hs.blk, L_api_Block__Height hs.blk, L_api_Block__Data hs.blk]
  refine cal_i (bkBytes_spec (hs.rdB hb) hh) ?_
  rintro _ w2 ⟨s2, rfl, hs2⟩
  replace hs2 := hs.join hs2
  simp only [fx, Nat.reduceAdd, forall_const]
  rcases Blk.chk_or b with h0 | h0
  · have hck := Blk.chk_ok h0
    have ho : b.out = b.bytes := if_pos h0
    have hro : b.recO = b.rcd := if_pos h0
    have hbl := b.bytes_len
    rw [ho] at hs2
    rw [hro, h0] at hR
    simp only [h0, fx, Nat.reduceAdd, forall_const, show ((0 : Int) != 0) = false from rfl]
    refine cal_i (NewS 258 (by omega)) ?_
    rintro _ w3 ⟨gp, rfl, hs3⟩
    replace hs3 := hs2.join hs3
    simp only [fx, Nat.reduceAdd, forall_const, (Sep.rd hs2).len]
    rw [wu32i (by omega) (by omega)]
    refine cal_i (IntS hs3 (by omega) (by omega) (by simp)) ?_
    rintro _ w4 ⟨rfl, s4, hs4⟩
    simp only [fx, Nat.reduceAdd, forall_const, L_api_Block (Sep.p3 hs4).blk, L_api_Block__Parent (Sep.p3 hs4).blk, L_api_Block__Height (Sep.p3 hs4).blk, L_api_Block__Data (Sep.p3 hs4).blk, u64_h hck.1 hh]
    refine cal_i (LongS hs4 (by omega) (by unfold maxI at hh; omega) (by simp [be_length])) ?_
    rintro _ w5 ⟨rfl, s5, hs5⟩
    refine cal_i (FixedS hs5 (c := b.bytes) (by omega) (fun z hz => hz.rd) (by simp [be_length]; omega)) ?_
    rintro _ w6 ⟨rfl, s6, hs6⟩
    refine cal_i (OutS hs6 (by simp [be_length]; omega)) ?_
    rintro _ w8 ⟨r, rfl, hs8⟩
    have e : [] ++ be 4 b.bytes.length ++ be 8 b.h.toNat ++ b.bytes = b.hd := by simp [Blk.hd]
    rw [e] at hs8
    simp only [fx, Nat.reduceAdd, forall_const, show ((0 : Int) != 0) = false from rfl]
    refine cal_i (shaSum_spec (hc.fr hs8.fr0) (Sep.rd hs8) (by rw [Blk.hd_len]; omega)) ?_
    rintro _ w9 ⟨rfl, hf9⟩
    have hs9 := hs8.old hf9
    refine alloc_s hs9 (A_api_ID w9) fun g10 w10 hs10 => ?_
    refine St_api_ID hs10 fun w11 hs11 => ?_
    rw [show (Value.int .i64 8) = .int .i64 ((8 : Nat) : Int) from rfl, sla_to (by omega)]
    refine appB_s S_sl_uint8 U_sl_uint8 (by simp) hs11.p1 (rd_arr (k := 8) hs11 (by omega)) (by rw [Blk.hd_len, List.length_take]; omega) fun s12 w12 hs12 => ?_
    exact hR _ _ ⟨s12, rfl, Sep.dropR (As := [ownB s12 b.rcd]) hs12⟩
  · have hro : b.recO = [] := by rw [Blk.recO, if_neg (by omega)]
    rw [hro, h0] at hR
    simp only [h0, fx, Nat.reduceAdd, forall_const, show ((30 : Int) != 0) = true from rfl]
    exact hR _ _ ⟨_, rfl, (Sep.start w).old hs2.fr0 |>.nil⟩
theorem rRecBytes_spec (hb : RdB w.heap v b.d) (hh : b.h ≤ maxI) : cal P f_ref09_Bytes [bq b v] w fun r w' => ∃ s, r = .tuple #[s, .int .i64 b.chk] ∧ Sep w w' [ownB s b.recO] := by
  refine s_ref09_Bytes fun R hR => ?_
  unfold c_ref09_Bytes
  refine bxQ (Sep.start w) fun g w1 hs => ?_
  simp only [L_api_Block hs.blk, L_api_Block__Parent hs.blk, L_api_Block__Height hs.blk, L_api_Block__Data hs.blk]
  refine cal_i (rbBytes_spec (hs.rdB hb) hh) ?_
  rintro _ w2 ⟨s2, rfl, hs2⟩
  replace hs2 := hs.join hs2
  simp only [fx, Nat.reduceAdd, forall_const]
  rcases Blk.chk_or b with h0 | h0
  · have hck := Blk.chk_ok h0
    have ho : b.out = b.bytes := if_pos h0
    have hro : b.recO = b.rcd := if_pos h0
    have hbl := b.bytes_len
    rw [ho] at hs2
    rw [hro, h0] at hR
    simp only [h0, fx, Nat.reduceAdd, forall_const, show ((0 : Int) != 0) = false from rfl, (Sep.rd hs2).len]
    rw [wu64i (by omega) (by omega)]
    refine drH_S hs2 fun w3 hs3 _ => ?_
    refine rdS_ld (v := .int .i64 b.h) (fun u hu K hk => (L_api_Block__Height (Sep.p1 hu).blk K).mpr hk) ?_
    simp only [fx, Nat.reduceAdd, forall_const, u64_h hck.1 hh]
    refine efS_i (cal_i (rNumS (n := 4) (by omega) (by omega)) ?_)
    rintro t4 w4 hs4
    replace hs4 := hs3.join hs4
    refine ⟨hs4.tail, ?_⟩
    refine efC_calA (w0 := w) (As := ownB t4 (be 4 b.bytes.length) :: [ownB s2 b.bytes, bb g b v]) (cal_i (rNumS (n := 8) (by omega) (by unfold maxI at hh; omega)) ?_)
    rintro t5 w5 hs5
    replace hs5 := hs4.join hs5
    refine ⟨hs5.tail, ?_⟩
    refine efC_efP (appB_s S_sl_uint8 U_sl_uint8 (by simp) hs5.p1 (Sep.rd hs5) (by simp [be_length]) fun s6 w6 hs6 => ?_)
    refine appB_s S_sl_uint8 U_sl_uint8 (by simp) hs6 (Sep.rd hs6.p2) (by simp [be_length]; omega) fun s7 w7 hs7 => ?_
    have e : be 4 b.bytes.length ++ be 8 b.h.toNat ++ b.bytes = b.hd := rfl
    rw [e] at hs7
    refine cal_i (rSum_spec (Sep.rd hs7) (by rw [Blk.hd_len]; omega)) ?_
    rintro _ w8 ⟨rfl, hf8⟩
    have hs8 := hs7.old hf8
    refine alloc_s hs8 (A_api_ID w8) fun g9 w9 hs9 => ?_
    refine St_api_ID hs9 fun w10 hs10 => ?_
    have hs11 : Sep w w10 [ownB s7 b.hd, blk g9 (Rdr.cells (rVec 32) (shaM b.hd)).toArray T_api_ID] := (Sep.dropR (As := [blk g9 (Rdr.cells (rVec 32) (shaM b.hd)).toArray T_api_ID, ownB s7 b.hd]) hs10).p1
    have h32 := (shaM b.hd).2
    have hhl := b.hd_len
    refine ⟨fun x y w' => ∃ i : Nat, y = .int .i64 i ∧ i ≤ 8 ∧ Sep w w' [ownB x (b.hd ++ (shaM b.hd).1.take i), blk g9 (Rdr.cells (rVec 32) (shaM b.hd)).toArray T_api_ID], fun _ y _ => (8 - RowKit.intOf y).toNat, ⟨0, rfl, by omega, by simpa using hs11⟩, ?_⟩
    rintro s12 _ w12 ⟨i, rfl, hi, hs12⟩ -
    simp only [fx, Nat.reduceAdd, forall_const]
    rw [cnd_bool]
    refine ⟨fun h => ?_, fun h => ?_⟩
    · have hlt : i < 8 := by simp at h; omega
      rw [ixa_w .i64 (by omega)]
      have hat : At w12.heap g9 0 (bvs (shaM b.hd).1) := At.blk (cs := Rdr.cells (rVec 32) (shaM b.hd)) (Sep.p1 hs12).blk
      have hld := At.byte hat (i := i) (by omega) 
      rw [Nat.zero_add] at hld
      rw [hld]
      refine app1 hs12 (by simp; omega) fun s13 w13 hs13 => ?_
      rw [wi64 (by omega) (by omega)]
      refine ⟨⟨i + 1, by simp, by omega, ?_⟩, by simp [RowKit.intOf]; omega⟩
      rw [List.take_succ_eq_append_getElem (by omega), ← List.append_assoc]
      exact hs13
    · have h8 : i = 8 := by simp at h; omega
      subst h8
      exact hR _ _ ⟨s12, rfl, Sep.dropR (As := [ownB s12 b.rcd]) hs12⟩
  · have hro : b.recO = [] := by rw [Blk.recO, if_neg (by omega)]
    rw [hro, h0] at hR
    simp only [h0, fx, Nat.reduceAdd, forall_const, show ((30 : Int) != 0) = true from rfl]
    exact hR _ _ ⟨_, rfl, (Sep.start w).old hs2.fr0 |>.nil⟩
theorem recSize_spec (hb : RdB w.heap v b.d) : cal P f_rec_Size [bq b v] w fun r w' => r = .int .i64 b.recO.length ∧ Fr [] w w' := by
  refine s_rec_Size fun R hR => ?_
  unfold c_rec_Size
  refine bxQ (Sep.start w) fun g w1 hs => ?_
  simp only [L_api_Block hs.blk, L_api_Block__Parent hs.blk, L_api_Block__Height hs.blk, L_api_Block__Data hs.blk]
  refine cal_i (Check_spec (hs.rdB hb)) ?_
  rintro _ w2 ⟨rfl, hf2⟩
  have hs2 := hs.old hf2
  simp only [fx, Nat.reduceAdd, forall_const]
  rw [Blk.recO_len] at hR
  rcases Blk.chk_or b with h0 | h0
  · have hck := Blk.chk_ok h0
    rw [if_pos h0] at hR
    simp only [h0, fx, Nat.reduceAdd, forall_const, show ((0 : Int) != 0) = false from rfl, L_api_Block hs2.blk, L_api_Block__Parent hs2.blk, L_api_Block__Height hs2.blk, L_api_Block__Data hs2.blk, (hs2.rdB hb).len]
    refine hR _ _ ⟨?_, hs2.fr0⟩
    rw [wi64 (x := 58 + (b.d.length : Int)) (by omega) (by omega), wi64 (by omega) (by omega)]
    congr 1
    omega
  · rw [if_neg (by omega)] at hR
    simp only [h0, fx, Nat.reduceAdd, forall_const, show ((30 : Int) != 0) = true from rfl]
    exact hR _ _ ⟨rfl, hs2.fr0⟩
theorem rRecSize_spec (hb : RdB w.heap v b.d) (hh : b.h ≤ maxI) : cal P f_ref09_Size [bq b v] w fun r w' => r = .int .i64 b.recO.length ∧ Fr [] w w' := by
  refine s_ref09_Size fun R hR => ?_
  unfold c_ref09_Size
  refine bxQ (Sep.start w) fun g w1 hs => ?_
  simp only [L_api_Block hs.blk, L_api_Block__Parent hs.blk, L_api_Block__Height hs.blk, L_api_Block__Data hs.blk]
  refine cal_i (rRecBytes_spec (hs.rdB hb) hh) ?_
  rintro _ w2 ⟨s2, rfl, hs2⟩
  replace hs2 := hs.join hs2
  simp only [fx, Nat.reduceAdd, forall_const, (Sep.rd hs2).len]
  exact hR _ _ ⟨rfl, hs2.fr0⟩
end
end Go.Fx
set_option linter.unusedVariables false
set_option linter.unusedSimpArgs false
namespace Go.Fx
def gpay (r : List UInt8) (n : Nat) : List UInt8 := (r.drop 12).take n
def goodR (r : List UInt8) (n : Nat) : Prop := okP (gpay r n) ∧ (parB (gpay r n)).rcd = r.take (20 + n)
instance (r : List UInt8) (n : Nat) : Decidable (goodR r n) := by unfold goodR; infer_instance
/-- What stands at the beginning of r, and how many bytes it has; its error. -/
def takeR (r : List UInt8) : Blk × Nat × Int :=
  if r.length < 12 then (Blk.none, 0, 11)
  else if 246 < ofBe (r.take 4) then (Blk.none, 0, 90)
  else if r.length < 20 + ofBe (r.take 4) then (Blk.none, 0, 11)
  else if goodR r (ofBe (r.take 4)) then (parB (gpay r (ofBe (r.take 4))), 20 + ofBe (r.take 4), 0) else (Blk.none, 0, 90)
def takeX (l : List UInt8) (a : Int) : Blk × Int × Int :=
  if a < 0 ∨ (l.length : Int) < a then (Blk.none, 0, 1)
  else ((takeR (l.drop a.toNat)).1, (if (takeR (l.drop a.toNat)).2.2 = 0 then a + (takeR (l.drop a.toNat)).2.1 else 0), (takeR (l.drop a.toNat)).2.2)
theorem cut_rec {r : List UInt8} {n : Nat} : r.take (20 + n) = r.take 4 ++ (r.drop 4).take 8 ++ gpay r n ++ (r.drop (12 + n)).take 8 := by
  have h1 : r.take (20 + n) = r.take 4 ++ (r.drop 4).take (8 + (n + 8)) := by rw [← List.take_add]; congr 1; omega
  have h2 : (r.drop 4).take (8 + (n + 8)) = (r.drop 4).take 8 ++ (r.drop 12).take (n + 8) := by rw [List.take_add, List.drop_drop]
  have h3 : (r.drop 12).take (n + 8) = gpay r n ++ (r.drop (12 + n)).take 8 := by rw [List.take_add, List.drop_drop]; rfl
  rw [h1, h2, h3]
  simp only [List.append_assoc]
theorem cut_hd {r : List UInt8} {n : Nat} : r.take (12 + n) = r.take 4 ++ (r.drop 4).take 8 ++ gpay r n := by
  have h1 : r.take (12 + n) = r.take 4 ++ (r.drop 4).take (8 + n) := by rw [← List.take_add]; congr 1; omega
  have h2 : (r.drop 4).take (8 + n) = (r.drop 4).take 8 ++ (r.drop 12).take n := by rw [List.take_add, List.drop_drop]
  rw [h1, h2]
  simp only [gpay, List.append_assoc]
theorem good_iff {r : List UInt8} (hl : 20 + ofBe (r.take 4) ≤ r.length) (hok : okP (gpay r (ofBe (r.take 4)))) :
    (parB (gpay r (ofBe (r.take 4)))).rcd = r.take (20 + ofBe (r.take 4)) ↔ (parB (gpay r (ofBe (r.take 4)))).h.toNat = ofBe ((r.drop 4).take 8) ∧ tail8 (r.take (12 + ofBe (r.take 4))) = (r.drop (12 + ofBe (r.take 4))).take 8 := by
  have h4 : (r.take 4).length = 4 := by simp; omega
  have h8 : ((r.drop 4).take 8).length = 8 := by simp; omega
  have hb4 := be_ofBe (r.take 4)
  have hb8 := be_ofBe ((r.drop 4).take 8)
  rw [h4] at hb4
  rw [h8] at hb8
  generalize hn : ofBe (r.take 4) = n at *
  have hp : (gpay r n).length = n := by simp [gpay]; omega
  have hx : (parB (gpay r n)).bytes = gpay r n := hok.2.2.2
  have hh : (parB (gpay r n)).h ≤ maxI := hok.2.1
  generalize parB (gpay r n) = x at *
  have hhd : x.hd = r.take 4 ++ be 8 x.h.toNat ++ gpay r n := by unfold Blk.hd; rw [hx, hp, hb4]
  unfold Blk.rcd
  rw [hhd, cut_rec, cut_hd]
  constructor
  · intro h
    have h1 := List.append_inj h (by simp only [List.length_append, be_length, h8])
    have h2 := List.append_inj h1.1 (by simp only [List.length_append, be_length, h8])
    have h3 := (List.append_inj h2.1 rfl).2
    refine ⟨?_, ?_⟩
    · have := congrArg ofBe h3
      rw [ofBe_b8 (by unfold maxI at hh; omega)] at this
      exact this
    · rw [← h3]; exact h1.2
  · rintro ⟨h1, h2⟩
    have h3 : be 8 x.h.toNat = (r.drop 4).take 8 := by rw [h1, hb8]
    rw [h3, h2]
theorem goodR_iff {r : List UInt8} (hl : 20 + ofBe (r.take 4) ≤ r.length) : goodR r (ofBe (r.take 4)) ↔ okP (gpay r (ofBe (r.take 4))) ∧ (parB (gpay r (ofBe (r.take 4)))).h.toNat = ofBe ((r.drop 4).take 8) ∧ tail8 (r.take (12 + ofBe (r.take 4))) = (r.drop (12 + ofBe (r.take 4))).take 8 := by
  constructor
  · rintro ⟨h1, h2⟩
    exact ⟨h1, (good_iff hl h1).1 h2⟩
  · rintro ⟨h1, h2⟩
    exact ⟨h1, (good_iff hl h1).2 h2⟩
section
variable {w0 w : World} {As : List Asn} {v : Value} {l : List UInt8} {a : Int}
abbrev nb (g : Nat) : Asn := blk g (Rdr.cells Q_api_Block (vz 32, (0 : Int), Value.slice Option.none 0 0)).toArray T_api_Block
theorem recTake_spec (hc : Cub w) (hb : RdB w.heap v l) (hcap : capOk v) (hl : l.length ≤ 9223372036854775807) (ha : -9223372036854775808 ≤ a ∧ a ≤ 9223372036854775807) : cal P f_rec_Take [v, .int .i64 a] w fun r w' =>
    ∃ v', r = .tuple #[bq (takeX l a).1 v', .int .i64 (takeX l a).2.1, .int .i64 (takeX l a).2.2] ∧ Sep w w' [ownB v' (takeX l a).1.d] := by
  refine s_rec_Take fun R hR => ?_
  unfold c_rec_Take
  refine alloc_s (Sep.start w) (A_api_Block w) fun g2 w1 hs1 => ?_
  have bad : ∀ {z : World} {Bs : List Asn} {c : Int}, Sep w z (nb g2 :: Bs) → takeX l a = (Blk.none, 0, c) → rdP P (Instr.build T_api_Block #[]) z fun t52 => stN 34 (.pointer (some ⟨g2, 0, none⟩)) t52 z fun w => ldN 34 (.pointer (some ⟨g2, 0, none⟩)) w.heap fun r1 => R (.tuple #[r1, .int .i64 0, .int .i64 c]) w := fun {z Bs c} h hp => by
    rw [B_api_Block]
    refine St_api_Block h (one_api_Block rfl) fun w10 hs10 => ?_
    simp only [L_api_Block hs10.blk, L_api_Block__Parent hs10.blk, L_api_Block__Height hs10.blk, L_api_Block__Data hs10.blk]
    rw [hp] at hR
    exact hR _ _ ⟨.slice none 0 0, rfl, ((Sep.start w).old hs10.fr0).nil⟩
  simp only [fx, Nat.reduceAdd, forall_const, hb.len]
  rw [cnd_bool]
  refine ⟨fun h => ?_, fun h => ?_⟩
  · simp only [Bool.or_eq_true, decide_eq_true_eq] at h
    refine bad hs1 ?_
    unfold takeX
    rw [if_pos (by omega)]
  simp only [Bool.or_eq_false_iff, decide_eq_false_iff_not] at h
  obtain ⟨i, rfl⟩ := Int.eq_ofNat_of_zero_le (show 0 ≤ a by omega)
  have hx : takeX l (i : Int) = ((takeR (l.drop i)).1, (if (takeR (l.drop i)).2.2 = 0 then (i : Int) + (takeR (l.drop i)).2.1 else 0), (takeR (l.drop i)).2.2) := by unfold takeX; rw [if_neg (by omega)]; rfl
  have hil : i ≤ l.length := by omega
  obtain ⟨av, cv, rfl⟩ := hb.form
  have hcv : l.length ≤ cv := hcap _ _ _ rfl
  rw [slc_from hil]
  have hr0 : ∀ {z : World} {Bs : List Asn}, Sep w z Bs → RdB z.heap (.slice (if cv = i then av else av.map (·.add (i * 1))) (l.length - i) (cv - i)) (l.drop i) := fun {z Bs} hz => (hz.rdB hb).drop (k := i) hil hcv (cv - i)
  generalize (if cv = i then av else av.map (·.add (i * 1))) = ar at *
  have hrl : l.length - i = (l.drop i).length := by simp
  rw [hrl] at hr0 ⊢
  obtain ⟨rc, hrc⟩ : ∃ rc, rc = cv - i := ⟨_, rfl⟩
  rw [← hrc] at hr0 ⊢
  have hrcl : (l.drop i).length ≤ rc := by simp; omega
  have hrm : i + (l.drop i).length ≤ 9223372036854775807 := by simp; omega
  generalize l.drop i = r at *
  clear hrl hrc
  simp only [fx, Nat.reduceAdd, forall_const]
  rw [cnd_bool]
  refine ⟨fun h => ?_, fun h12 => ?_⟩
  · refine bad hs1 ?_
    have : r.length < 12 := by simp at h; omega
    rw [hx]; unfold takeR; rw [if_pos this]; rfl
  have h12 : ¬ r.length < 12 := by simp at h12; omega
  rw [show (Value.int .i64 4) = .int .i64 ((4 : Nat) : Int) from rfl, slc_to (by omega)]
  have h4 : (r.take 4).length = 4 := by simp; omega
  refine cal_i (ReadS ((hr0 hs1).take (k := 4) (by omega) rc) (by omega)) ?_
  rintro _ w2 ⟨gu, s2, rfl, hs2⟩
  replace hs2 := hs1.join hs2
  refine cal_i (uIntS hs2) ?_
  rintro _ w3 ⟨rfl, s3, hs3⟩
  have hs3 : Sep w w3 [nb g2] := hs3.tail.tail
  have et : (tk 4 (r.take 4) 0).1 = r.take 4 := by unfold tk; rw [if_pos rfl, if_neg (by omega)]; exact List.take_of_length_le (Nat.le_of_eq h4)
  rw [et]
  have hn4 := ofBe_lt (r.take 4)
  rw [h4] at hn4
  obtain ⟨n, hn⟩ : ∃ n, n = ofBe (r.take 4) := ⟨_, rfl⟩
  rw [← hn] at hn4 ⊢
  have hR4 : takeR r = if 246 < n then (Blk.none, 0, 90) else if r.length < 20 + n then (Blk.none, 0, 11) else if goodR r n then (parB (gpay r n), 20 + n, 0) else (Blk.none, 0, 90) := by unfold takeR; rw [if_neg h12, ← hn]
  simp only [fx, Nat.reduceAdd, forall_const]
  rw [cnd_bool]
  refine ⟨fun h => ?_, fun h246 => ?_⟩
  · refine bad hs3 ?_
    have : 246 < n := by simp at h; omega
    rw [hx, hR4, if_pos this]; rfl
  have h246 : ¬ 246 < n := by simp at h246; omega
  rw [if_neg h246] at hR4
  have e1 : IntKind.i64.wrap (12 + IntKind.i64.wrap (n : Int)) = ((12 + n : Nat) : Int) := by rw [wi64 (x := (n : Int)) (by omega) (by omega), wi64 (by omega) (by omega)]; omega
  have e2 : IntKind.i64.wrap (((12 + n : Nat) : Int) + 8) = ((20 + n : Nat) : Int) := by rw [wi64 (by omega) (by omega)]; omega
  simp only [e1, e2, fx, Nat.reduceAdd, forall_const]
  rw [cnd_bool]
  refine ⟨fun h => ?_, fun h20 => ?_⟩
  · refine bad hs3 ?_
    have : r.length < 20 + n := by simp at h; omega
    rw [hx, hR4, if_pos this]; rfl
  have h20 : ¬ r.length < 20 + n := by simp at h20; omega
  rw [if_neg h20] at hR4
  rw [show (Value.int .i64 12) = .int .i64 ((12 : Nat) : Int) from rfl, slc_mid (by omega) (by omega)]
  have hpay : ∀ {z : World} {Bs : List Asn}, Sep w z Bs → RdB z.heap (.slice (if rc = 12 then ar else ar.map (·.add (12 * 1))) (12 + n - 12) (rc - 12)) (gpay r n) := fun {z Bs} hz => by
    have := RdB.mid (i := 12) (j := 12 + n) (hr0 hz) hrcl (by omega) (by omega)
    rw [Nat.add_sub_cancel_left] at this
    rw [Nat.add_sub_cancel_left]
    exact this
  refine cal_i (Parse_spec (hpay hs3)) ?_
  rintro _ w4 ⟨v4, rfl, hs4⟩
  replace hs4 := hs3.join hs4
  simp only [fx, Nat.reduceAdd, forall_const]
  refine alloc_s hs4 (A_api_Block w4) fun g5 w5 hs5 => ?_
  refine St_api_Block hs5 (one_api_Block (Sep.one hs5.p1)) fun w6 hs6 => ?_
  rw [slc_to (by omega)]
  refine cal_i (shaSum_spec (hc.fr hs6.fr0) ((hr0 hs6).take (k := 12 + n) (by omega) rc) (by simp; omega)) ?_
  rintro _ w7 ⟨rfl, hf7⟩
  have hs7 := hs6.old hf7
  refine alloc_s hs7 (A_api_ID w7) fun g8 w8 hs8 => ?_
  refine St_api_ID hs8 fun w9 hs9 => ?_
  have gI := goodR_iff (r := r) (by rw [← hn]; omega)
  rw [← hn] at gI
  have e3 : IntKind.i64.wrap (IntKind.i64.wrap ((i : Int) + ((12 + n : Nat) : Int)) + 8) = (i : Int) + ((20 + n : Nat) : Int) := by
    rw [wi64 (x := (i : Int) + ((12 + n : Nat) : Int)) (by omega) (by omega), wi64 (by omega) (by omega)]; omega
  have hng : ¬ goodR r n → takeX l (i : Int) = (Blk.none, 0, 90) := fun hg => by rw [hx, hR4, if_neg hg]; rfl
  replace hs9 : Sep w w9 [blk g8 (Rdr.cells (rVec 32) (shaM (r.take (12 + n)))).toArray T_api_ID, bb g5 (parse (gpay r n)) v4, ownB v4 (parse (gpay r n)).d, nb g2] := hs9
  refine drH_S hs9 fun w10 hs10 _ => ?_
  by_cases hok : okP (gpay r n)
  case neg =>
    have he : parseE (gpay r n) = 30 := if_neg hok
    simp only [he, fx, Nat.reduceAdd, forall_const, show ((30 : Int) != 0) = true from rfl]
    exact bad hs10.p3 (hng fun hg => hok hg.1)
  have hp : parse (gpay r n) = parB (gpay r n) := if_pos hok
  have he : parseE (gpay r n) = 0 := if_pos hok
  have hck := Blk.chk_ok hok.2.2.1
  have hh := hok.2.1
  rw [hp] at hs10
  simp only [hp, he, fx, Nat.reduceAdd, forall_const, show ((0 : Int) != 0) = false from rfl]
  obtain ⟨x, hxx⟩ : ∃ x, x = parB (gpay r n) := ⟨_, rfl⟩
  rw [← hxx] at hs10 gI hck hh hR4
  rw [← hxx]
  obtain ⟨As, hAs⟩ : ∃ As, As = [blk g8 (Rdr.cells (rVec 32) (shaM (r.take (12 + n)))).toArray T_api_ID, bb g5 x v4, ownB v4 x.d, nb g2] := ⟨_, rfl⟩
  replace hs10 : Sep w w10 As := by rw [hAs]; exact hs10
  rw [← hAs]
  have h48 : RdB w.heap (.slice ar r.length rc) r := hr0 (Sep.start w)
  refine jn1_dup ?_
  refine rdS_ld (v := .int .i64 x.h) (fun u hu K hk => by rw [hAs] at hu; exact (L_api_Block__Height (Sep.p1 hu).blk K).mpr hk) ?_
  simp only [fx, Nat.reduceAdd, forall_const, u64_h hck.1 hh]
  rw [slc_mid (by omega) (by omega)]
  have h8 : ((r.drop 4).take 8).length = 8 := by simp; omega
  refine efS_i (cal_i (ReadS (l := (r.drop 4).take 8) (RdB.mid (i := 4) (j := 12) (hr0 hs10) hrcl (by omega) (by omega)) (by omega)) ?_)
  rintro _ w11 ⟨gu2, s11, rfl, hs11⟩
  replace hs11 := hs10.join hs11
  refine ⟨hs11.tail.tail, ?_⟩
  refine efS_i (cal_i (uLongS hs11) ?_)
  rintro _ w12 ⟨rfl, s12, hs12⟩
  have hs12 : Sep w w12 As := hs12.tail.tail
  refine ⟨hs12, ?_⟩
  have et8 : (tk 8 ((r.drop 4).take 8) 0).1 = (r.drop 4).take 8 := by unfold tk; rw [if_pos rfl, if_neg (by omega)]; exact List.take_of_length_le (Nat.le_of_eq h8)
  rw [et8]
  by_cases hcmp : x.h.toNat = ofBe ((r.drop 4).take 8)
  case neg =>
    have e : (((x.h.toNat : Nat) : Int) != ((ofBe ((r.drop 4).take 8) : Nat) : Int)) = true := by simp only [bne_iff_ne, ne_eq]; omega
    simp only [fx, Nat.reduceAdd, forall_const, e]
    rw [hAs] at hs12
    exact bad hs12.p3 (hng fun hg => hcmp (gI.1 hg).2.1)
  have e : (((x.h.toNat : Nat) : Int) != ((ofBe ((r.drop 4).take 8) : Nat) : Int)) = false := by rw [hcmp]; simp
  simp only [fx, Nat.reduceAdd, forall_const, e]
  refine jn1_dup ?_
  rw [show (Value.int .i64 8) = .int .i64 ((8 : Nat) : Int) from rfl, sla_to (by omega), slc_mid (by omega) (by omega)]
  have hrs : RdB w12.heap (.slice (some ⟨g8, 0, none⟩) 8 32) (tail8 (r.take (12 + n))) := by
    rw [hAs] at hs12
    exact rd_arr (k := 8) hs12 (by omega)
  have hrt := RdB.mid (i := 12 + n) (j := 20 + n) (hr0 hs12) hrcl (by omega) (by omega)
  have e20 : 20 + n - (12 + n) = 8 := by omega
  rw [e20] at hrt
  rw [e20]
  refine efS_i (cal_i (bEqual_spec hrs hrt) ?_)
  rintro _ _ ⟨rfl, rfl⟩
  refine ⟨hs12, ?_⟩
  simp only [fx, Nat.reduceAdd, forall_const]
  rw [cnd_bool]
  rw [hAs] at hs12
  refine ⟨fun h => ?_, fun h => ?_⟩
  · have h : ¬ tail8 (r.take (12 + n)) = (r.drop (12 + n)).take 8 := by simpa using h
    exact bad hs12.p3 (hng fun hg => h (gI.1 hg).2.2)
  · have h : tail8 (r.take (12 + n)) = (r.drop (12 + n)).take 8 := by simpa using h
    have hg : goodR r n := gI.2 ⟨hok, hcmp, h⟩
    rw [if_pos hg] at hR4
    simp only [L_api_Block (Sep.p1 hs12).blk, L_api_Block__Parent (Sep.p1 hs12).blk, L_api_Block__Height (Sep.p1 hs12).blk, L_api_Block__Data (Sep.p1 hs12).blk]
    refine St_api_Block hs12.p3 (one_api_Block (Sep.one (hs12.pick [2] 4))) fun w13 hs13 => ?_
    simp only [L_api_Block hs13.blk, L_api_Block__Parent hs13.blk, L_api_Block__Height hs13.blk, L_api_Block__Data hs13.blk, e3]
    rw [hx, hR4] at hR
    exact hR _ _ ⟨v4, by simp, Sep.dropR (As := [ownB v4 x.d]) hs13.p3⟩
theorem rRecTake_spec (hb : RdB w.heap v l) (hcap : capOk v) (hl : l.length ≤ 9223372036854775807) (ha : -9223372036854775808 ≤ a ∧ a ≤ 9223372036854775807) : cal P f_ref09_Take [v, .int .i64 a] w fun r w' =>
    ∃ v', r = .tuple #[bq (takeX l a).1 v', .int .i64 (takeX l a).2.1, .int .i64 (takeX l a).2.2] ∧ Sep w w' [ownB v' (takeX l a).1.d] := by
  refine s_ref09_Take fun R hR => ?_
  unfold c_ref09_Take
  refine alloc_s (Sep.start w) (A_api_Block w) fun g2 w1 hs1 => ?_
  have bad : ∀ {z : World} {Bs : List Asn} {c : Int}, Sep w z (nb g2 :: Bs) → takeX l a = (Blk.none, 0, c) → rdP P (Instr.build T_api_Block #[]) z fun t52 => stN 34 (.pointer (some ⟨g2, 0, none⟩)) t52 z fun w => ldN 34 (.pointer (some ⟨g2, 0, none⟩)) w.heap fun r1 => R (.tuple #[r1, .int .i64 0, .int .i64 c]) w := fun {z Bs c} h hp => by
    rw [B_api_Block]
    refine St_api_Block h (one_api_Block rfl) fun w10 hs10 => ?_
    simp only [L_api_Block hs10.blk, L_api_Block__Parent hs10.blk, L_api_Block__Height hs10.blk, L_api_Block__Data hs10.blk]
    rw [hp] at hR
    exact hR _ _ ⟨.slice none 0 0, rfl, ((Sep.start w).old hs10.fr0).nil⟩
  simp only [fx, Nat.reduceAdd, forall_const, hb.len]
  rw [cnd_bool]
  refine ⟨fun h => ?_, fun h => ?_⟩
  · simp only [Bool.or_eq_true, decide_eq_true_eq] at h
    refine bad hs1 ?_
    unfold takeX
    rw [if_pos (by omega)]
  simp only [Bool.or_eq_false_iff, decide_eq_false_iff_not] at h
  obtain ⟨i, rfl⟩ := Int.eq_ofNat_of_zero_le (show 0 ≤ a by omega)
  have hx : takeX l (i : Int) = ((takeR (l.drop i)).1, (if (takeR (l.drop i)).2.2 = 0 then (i : Int) + (takeR (l.drop i)).2.1 else 0), (takeR (l.drop i)).2.2) := by unfold takeX; rw [if_neg (by omega)]; rfl
  have hil : i ≤ l.length := by omega
  obtain ⟨av, cv, rfl⟩ := hb.form
  have hcv : l.length ≤ cv := hcap _ _ _ rfl
  rw [slc_from hil]
  have hr0 : ∀ {z : World} {Bs : List Asn}, Sep w z Bs → RdB z.heap (.slice (if cv = i then av else av.map (·.add (i * 1))) (l.length - i) (cv - i)) (l.drop i) := fun {z Bs} hz => (hz.rdB hb).drop (k := i) hil hcv (cv - i)
  generalize (if cv = i then av else av.map (·.add (i * 1))) = ar at *
  have hrl : l.length - i = (l.drop i).length := by simp
  rw [hrl] at hr0 ⊢
  obtain ⟨rc, hrc⟩ : ∃ rc, rc = cv - i := ⟨_, rfl⟩
  rw [← hrc] at hr0 ⊢
  have hrcl : (l.drop i).length ≤ rc := by simp; omega
  have hrm : i + (l.drop i).length ≤ 9223372036854775807 := by simp; omega
  generalize l.drop i = r at *
  clear hrl hrc
  simp only [fx, Nat.reduceAdd, forall_const]
  rw [cnd_bool]
  refine ⟨fun h => ?_, fun h12 => ?_⟩
  · refine bad hs1 ?_
    have : r.length < 12 := by simp at h; omega
    rw [hx]; unfold takeR; rw [if_pos this]; rfl
  have h12 : ¬ r.length < 12 := by simp at h12; omega
  rw [show (Value.int .i64 4) = .int .i64 ((4 : Nat) : Int) from rfl, slc_to (by omega)]
  have h4 : (r.take 4).length = 4 := by simp; omega
  refine cal_i (rVal_spec ((hr0 hs1).take (k := 4) (by omega) rc) (by omega)) ?_
  rintro _ _ ⟨rfl, rfl⟩
  have hn4 := ofBe_lt (r.take 4)
  rw [h4] at hn4
  obtain ⟨n, hn⟩ : ∃ n, n = ofBe (r.take 4) := ⟨_, rfl⟩
  rw [← hn] at hn4 ⊢
  have hR4 : takeR r = if 246 < n then (Blk.none, 0, 90) else if r.length < 20 + n then (Blk.none, 0, 11) else if goodR r n then (parB (gpay r n), 20 + n, 0) else (Blk.none, 0, 90) := by unfold takeR; rw [if_neg h12, ← hn]
  simp only [fx, Nat.reduceAdd, forall_const]
  rw [cnd_bool]
  refine ⟨fun h => ?_, fun h246 => ?_⟩
  · refine bad hs1 ?_
    have : 246 < n := by simp at h; omega
    rw [hx, hR4, if_pos this]; rfl
  have h246 : ¬ 246 < n := by simp at h246; omega
  rw [if_neg h246] at hR4
  have e1 : IntKind.i64.wrap (12 + IntKind.i64.wrap (n : Int)) = ((12 + n : Nat) : Int) := by rw [wi64 (x := (n : Int)) (by omega) (by omega), wi64 (by omega) (by omega)]; omega
  have e2 : IntKind.i64.wrap (((12 + n : Nat) : Int) + 8) = ((20 + n : Nat) : Int) := by rw [wi64 (by omega) (by omega)]; omega
  simp only [e1, e2, fx, Nat.reduceAdd, forall_const]
  rw [cnd_bool]
  refine ⟨fun h => ?_, fun h20 => ?_⟩
  · refine bad hs1 ?_
    have : r.length < 20 + n := by simp at h; omega
    rw [hx, hR4, if_pos this]; rfl
  have h20 : ¬ r.length < 20 + n := by simp at h20; omega
  rw [if_neg h20] at hR4
  have hng : ¬ goodR r n → takeX l (i : Int) = (Blk.none, 0, 90) := fun hg => by rw [hx, hR4, if_neg hg]; rfl
  rw [show (Value.int .i64 12) = .int .i64 ((12 : Nat) : Int) from rfl, slc_mid (by omega) (by omega)]
  have hpay : ∀ {z : World} {Bs : List Asn}, Sep w z Bs → RdB z.heap (.slice (if rc = 12 then ar else ar.map (·.add (12 * 1))) (12 + n - 12) (rc - 12)) (gpay r n) := fun {z Bs} hz => by
    have := RdB.mid (i := 12) (j := 12 + n) (hr0 hz) hrcl (by omega) (by omega)
    rw [Nat.add_sub_cancel_left] at this
    rw [Nat.add_sub_cancel_left]
    exact this
  have hpl : (gpay r n).length = n := by simp [gpay]; omega
  refine cal_i (rParse_spec (hpay hs1) (fun a' n' c' he => by
    simp only [Value.slice.injEq] at he
    obtain ⟨_, rfl, rfl⟩ := he
    omega) (by omega)) ?_
  rintro _ w4 ⟨v4, rfl, hs4⟩
  replace hs4 := hs1.join hs4
  simp only [fx, Nat.reduceAdd, forall_const]
  refine alloc_s hs4 (A_api_Block w4) fun g5 w5 hs5 => ?_
  refine St_api_Block hs5 (one_api_Block (Sep.one hs5.p1)) fun w6 hs6 => ?_
  by_cases hok : okP (gpay r n)
  case neg =>
    have he : parseE (gpay r n) = 30 := if_neg hok
    simp only [he, fx, Nat.reduceAdd, forall_const, show ((30 : Int) != 0) = true from rfl]
    exact bad hs6.p2 (hng fun hg => hok hg.1)
  have hp : parse (gpay r n) = parB (gpay r n) := if_pos hok
  have he : parseE (gpay r n) = 0 := if_pos hok
  have hgd : goodR r n ↔ (parB (gpay r n)).rcd = r.take (20 + n) := ⟨fun h => h.2, fun h => ⟨hok, h⟩⟩
  have hck0 := hok.2.2.1
  have hh := hok.2.1
  rw [hp] at hs6
  simp only [hp, he, fx, Nat.reduceAdd, forall_const, show ((0 : Int) != 0) = false from rfl]
  obtain ⟨x, hxx⟩ : ∃ x, x = parB (gpay r n) := ⟨_, rfl⟩
  rw [← hxx] at hs6 hgd hh hck0 hR4
  replace hs6 : Sep w w6 [bb g5 x v4, ownB v4 x.d, nb g2] := hs6
  simp only [L_api_Block hs6.blk, L_api_Block__Parent hs6.blk, L_api_Block__Height hs6.blk, L_api_Block__Data hs6.blk]
  refine cal_i (rRecBytes_spec (b := x) (Sep.rd hs6.p1) hh) ?_
  rintro _ w7 ⟨s7, rfl, hs7⟩
  have ho : x.recO = x.rcd := if_pos hck0
  rw [ho] at hs7
  replace hs7 : Sep w w7 [ownB s7 x.rcd, bb g5 x v4, ownB v4 x.d, nb g2] := hs6.join hs7
  simp only [fx, Nat.reduceAdd, forall_const]
  refine drw_s hs7 fun w8 hs8 _ => ?_
  rw [rdP_eq (conv_str UT_bytes UT_uint8 UT_string (Sep.rd hs8)), slc_to (by omega), rdP_eq (conv_str UT_bytes UT_uint8 UT_string ((hr0 hs8).take (k := 20 + n) (by omega) rc)), neS_str]
  rw [cnd_bool]
  refine ⟨fun h => ?_, fun h => ?_⟩
  · have h : ¬ x.rcd = r.take (20 + n) := by simpa using h
    exact bad hs8.p3 (hng fun hg => h (hgd.1 hg))
  · have h : x.rcd = r.take (20 + n) := by simpa using h
    have hg : goodR r n := hgd.2 h
    rw [if_pos hg] at hR4
    simp only [L_api_Block (Sep.p1 hs8).blk, L_api_Block__Parent (Sep.p1 hs8).blk, L_api_Block__Height (Sep.p1 hs8).blk, L_api_Block__Data (Sep.p1 hs8).blk]
    refine St_api_Block hs8.p3 (one_api_Block (Sep.one (hs8.pick [2] 4))) fun w13 hs13 => ?_
    have e3 : IntKind.i64.wrap ((i : Int) + ((20 + n : Nat) : Int)) = (i : Int) + ((20 + n : Nat) : Int) := by rw [wi64 (by omega) (by omega)]
    simp only [L_api_Block hs13.blk, L_api_Block__Parent hs13.blk, L_api_Block__Height hs13.blk, L_api_Block__Data hs13.blk, e3]
    rw [hx, hR4] at hR
    exact hR _ _ ⟨v4, by simp, Sep.dropR (As := [ownB v4 x.d]) hs13.p3⟩
end
end Go.Fx
set_option linter.unusedVariables false
set_option linter.unusedSimpArgs false
namespace Go.Fx
/-- The records of blocks, if all of them may be. -/
def layOk (l : List Blk) : Prop := ∀ b ∈ l, b.chk = 0
instance (l : List Blk) : Decidable (layOk l) := by unfold layOk; infer_instance
def layL (l : List Blk) : List UInt8 := l.flatMap Blk.rcd
theorem layL_take {l : List Blk} {i : Nat} {b : Blk} (h : l[i]? = some b) : layL (l.take (i + 1)) = layL (l.take i) ++ b.rcd := by
  unfold layL
  rw [List.take_add_one, h]
  simp
section
variable {w0 w : World} {As : List Asn} {v : Value} {l : List BV}
theorem BRows.get {h : Heap} (hr : BRows h v l) {j : Nat} {x : BV} (hj : l[j]? = some x) : RdB h x.2 x.1.d := hr.2 x (List.mem_of_getElem? hj)
end
end Go.Fx
set_option linter.unusedVariables false
set_option linter.unusedSimpArgs false
namespace Go.Fx
theorem min_i64 {w : World} (a b : Int) (K : Value → Prop) : rdP P (Builtin.min_ #[T_int, T_int] T_int #[.int .i64 a, .int .i64 b]) w K = K (.int .i64 (if b < a then b else a)) := by
  refine rdP_eq ?_ K
  simp [Builtin.min_, Builtin.min2]
/-- A record is read where it stands. -/
theorem take_rcd {b : Blk} {t : List UInt8} (hc : b.chk = 0) (hh : b.h ≤ maxI) : takeR (b.rcd ++ t) = (b, b.rcd.length, 0) := by
  have hck := Blk.chk_ok hc
  have hbl := b.bytes_len
  have hrl := b.rec_len
  obtain ⟨n, hn⟩ : ∃ n, n = b.bytes.length := ⟨_, rfl⟩
  have er : b.rcd ++ t = be 4 n ++ (be 8 b.h.toNat ++ (b.bytes ++ (tail8 b.hd ++ t))) := by
    rw [hn]; unfold Blk.rcd; conv => lhs; unfold Blk.hd
    simp only [List.append_assoc]
    rfl
  have e4 : (b.rcd ++ t).take 4 = be 4 n := by rw [er]; exact List.take_left' (be_length _ _)
  have en : ofBe ((b.rcd ++ t).take 4) = n := by rw [e4, ofBe_b4 (by omega)]
  have e12 : (b.rcd ++ t).drop 12 = b.bytes ++ (tail8 b.hd ++ t) := by
    rw [er, show 12 = 4 + 8 from rfl, ← List.drop_drop, List.drop_left' (be_length _ _)]
    exact List.drop_left' (be_length _ _)
  have ep : gpay (b.rcd ++ t) n = b.bytes := by unfold gpay; rw [e12]; exact List.take_left' hn.symm
  have hok := parse_bytes hc hh
  have hg : goodR (b.rcd ++ t) n := by
    unfold goodR
    rw [ep, hok.2]
    exact ⟨hok.1, (List.take_left' (by omega)).symm⟩
  unfold takeR
  rw [en, if_neg (by simp; omega), if_neg (by omega), if_neg (by simp; omega), if_pos hg, ep, hok.2]
  congr 2
  omega
/-- What is read is a record. -/
theorem take_inv {r : List UInt8} {x : Blk} {n : Nat} (h : takeR r = (x, n, 0)) : x.chk = 0 ∧ x.h ≤ maxI ∧ n = x.rcd.length ∧ r = x.rcd ++ r.drop n := by
  unfold takeR at h
  split at h
  · simp at h
  rename_i h12
  split at h
  · simp at h
  rename_i h246
  split at h
  · simp at h
  rename_i h20
  split at h
  · rename_i hg
    simp only [Prod.mk.injEq, and_true] at h
    obtain ⟨rfl, rfl⟩ := h
    refine ⟨hg.1.2.2.1, hg.1.2.1, ?_, ?_⟩
    · rw [hg.2, List.length_take]; omega
    · rw [hg.2, List.take_append_drop]
  · simp at h
theorem takeR_err (r : List UInt8) : (takeR r).2.2 = 0 ∨ ((takeR r).1 = Blk.none ∧ (takeR r).2.1 = 0 ∧ ((takeR r).2.2 = 11 ∨ (takeR r).2.2 = 90)) := by
  unfold takeR
  repeat' split
  all_goals simp
section
variable {w0 w : World} {As : List Asn} {v : Value} {l : List BV}
theorem BRows.cut {h : Heap} {a : Option Addr} {m c k : Nat} (hr : BRows h (.slice a m c) l) (hk : k ≤ m) (c' : Nat) : BRows h (.slice a k c') (l.take k) := by
  refine ⟨?_, fun x hx => hr.2 x (List.mem_of_mem_take hx)⟩
  have hm : m = l.length := by obtain ⟨_, _, hv, _⟩ := hr.1; simp only [Value.slice.injEq, List.length_map] at hv; exact hv.2.1
  have := hr.1.take (k := k) (by simp; omega) c'
  rwa [← List.map_take] at this
end
end Go.Fx
set_option linter.unusedVariables false
set_option linter.unusedSimpArgs false
namespace Go.Fx
def goodB (l : List Blk) : Prop := ∀ b ∈ l, b.chk = 0 ∧ b.h ≤ maxI
theorem goodB.ok {l : List Blk} (h : goodB l) : layOk l := fun b hb => (h b hb).1
theorem layL_append (a b : List Blk) : layL (a ++ b) = layL a ++ layL b := by unfold layL; simp
theorem layL_cons (a : Blk) (b : List Blk) : layL (a :: b) = a.rcd ++ layL b := by unfold layL; simp
/-- L is what stands at the beginning of r. -/
def IsScan (r : List UInt8) (L : List Blk) : Prop := goodB L ∧ ∃ t, r = layL L ++ t ∧ (takeR t).2.2 ≠ 0
theorem takeR_nil : takeR [] = (Blk.none, 0, 11) := by unfold takeR; rw [if_pos (by decide)]
theorem IsScan.uniq : ∀ {L M : List Blk} {r : List UInt8}, IsScan r L → IsScan r M → L = M
  | [], [], _, _, _ => rfl
  | [], b :: M, r, ⟨_, t, h1, h2⟩, ⟨g, s, k1, k2⟩ => by
    have hb := g b (by simp)
    have ht : t = b.rcd ++ (layL M ++ s) := by
      have : layL ([] : List Blk) ++ t = t := rfl
      rw [← this, ← h1, k1, layL_cons, List.append_assoc]
    rw [ht, take_rcd hb.1 hb.2] at h2
    exact absurd rfl h2
  | a :: L, [], r, ⟨g, t, h1, h2⟩, ⟨_, s, k1, k2⟩ => by
    have ha := g a (by simp)
    have hs : s = a.rcd ++ (layL L ++ t) := by
      have : layL ([] : List Blk) ++ s = s := rfl
      rw [← this, ← k1, h1, layL_cons, List.append_assoc]
    rw [hs, take_rcd ha.1 ha.2] at k2
    exact absurd rfl k2
  | a :: L, b :: M, r, ⟨g, t, h1, h2⟩, ⟨g', s, k1, k2⟩ => by
    have ha := g a (by simp)
    have hb := g' b (by simp)
    have e1 : takeR r = (a, a.rcd.length, 0) := by rw [h1, layL_cons, List.append_assoc]; exact take_rcd ha.1 ha.2
    have e2 : takeR r = (b, b.rcd.length, 0) := by rw [k1, layL_cons, List.append_assoc]; exact take_rcd hb.1 hb.2
    have hab : a = b := congrArg Prod.fst (e1.symm.trans e2)
    subst hab
    have h3 : layL L ++ t = layL M ++ s := by
      have := h1.symm.trans k1
      rw [layL_cons, layL_cons, List.append_assoc, List.append_assoc] at this
      exact List.append_cancel_left this
    have := IsScan.uniq (L := L) (M := M) (r := layL L ++ t) ⟨fun x hx => g x (by simp [hx]), t, rfl, h2⟩ ⟨fun x hx => g' x (by simp [hx]), s, h3, k2⟩
    rw [this]
theorem IsScan.len {r : List UInt8} {L : List Blk} (h : IsScan r L) : (layL L).length ≤ r.length := by
  obtain ⟨_, t, h1, _⟩ := h
  rw [h1]; simp
theorem IsScan.take {r : List UInt8} {L : List Blk} (h : IsScan r L) : r.take (layL L).length = layL L := by
  obtain ⟨_, t, h1, _⟩ := h
  rw [h1]; simp
theorem layL_ge : ∀ L : List Blk, 66 * L.length ≤ (layL L).length
  | [] => by simp
  | b :: L => by
    have h1 := layL_ge L
    have h2 := b.rec_len
    rw [layL_cons, List.length_append, List.length_cons]
    omega
/-- A record that is cut off. -/
theorem take_cut {b : Blk} {s : List UInt8} {j : Nat} (hc : b.chk = 0) (hj : j < b.rcd.length) : takeR ((b.rcd ++ s).take j) = (Blk.none, 0, 11) := by
  have hck := Blk.chk_ok hc
  have hbl := b.bytes_len
  have hrl := b.rec_len
  have e1 : (b.rcd ++ s).take j = b.rcd.take j := by rw [List.take_append_of_le_length (by omega)]
  have hl : (b.rcd.take j).length = j := by simp; omega
  rw [e1]
  unfold takeR
  by_cases h12 : j < 12
  · rw [if_pos (by omega)]
  · rw [if_neg (by omega)]
    have e4 : (b.rcd.take j).take 4 = be 4 b.bytes.length := by
      rw [List.take_take, Nat.min_eq_left (by omega)]
      unfold Blk.rcd Blk.hd
      rw [List.append_assoc, List.append_assoc]
      exact List.take_left' (be_length _ _)
    rw [e4, ofBe_b4 (by omega), if_neg (by omega), if_pos (by omega)]
end Go.Fx
